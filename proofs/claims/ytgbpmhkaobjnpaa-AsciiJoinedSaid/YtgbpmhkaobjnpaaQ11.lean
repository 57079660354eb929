-- printed by a program of the session's own; Lean checks it
import Derived.Test.YtgbpmhkaobjnpaaQ0
import Derived.Test.YtgbpmhkaobjnpaaQ1
import Derived.Test.YtgbpmhkaobjnpaaQ2
import Derived.Test.YtgbpmhkaobjnpaaQ4
import Derived.Test.YtgbpmhkaobjnpaaQ10
namespace Go.Proofs.Ytgbpmhkaobjnpaa.Q
open Go.RowKit Go.Proofs.YtgbpmhkaobjnpaaW.PrintWords Go.Proofs.YtgbpmhkaobjnpaaW.PrintLast Go.Proofs.YtgbpmhkaobjnpaaW.PrintMore
attribute [local go_sem] max2_int min2_int max_two min_two max_three min_three max_four min_four   -- for this text's walks alone
set_option linter.unusedVariables false
set_option linter.unusedSimpArgs false

/-! ### cringlelaw01_AsciiSigns: function 3 -/
def cringlelaw01_AsciiSigns.f (k : Nat) (a0 : Int) : Option (Bool) := (ascii_IsBlank.f a0).bind fun t140 => ((cringleref01_IsBlank.f a0).bind fun t141 => (if (t140 == t141) = true then ((ascii_IsDigit.f a0).bind fun t142 => ((cringleref01_IsDigit.f a0).bind fun t143 => (if (t142 == t143) = true then ((ascii_IsLetter.f a0).bind fun t144 => ((cringleref01_IsLetter.f a0).bind fun t145 => (if (t144 == t145) = true then ((cringlelaw01_alive.f k).bind fun t146 => (some t146)) else (some false)))) else (some false)))) else (some false)))
theorem cringlelaw01_AsciiSigns.mono : ∀ a0 k, LeO (cringlelaw01_AsciiSigns.f k a0) (cringlelaw01_AsciiSigns.f (k + 1) a0) := by
  intro a0 k
  unfold cringlelaw01_AsciiSigns.f
  repeat' first
      | (with_reducible exact cringlelaw01_alive.mono _)
      | (with_reducible exact LeO.refl _)
      | (with_reducible exact LeO.none _)
      | (with_reducible refine LeO.ite ?_ ?_)
      | (with_reducible refine LeO.bind ?_ (fun _ => ?_))
      | exact cringlelaw01_alive.mono _
      | exact LeO.none _
      | refine LeO.ite ?_ ?_
      | refine LeO.bind ?_ (fun _ => ?_)
set_option maxHeartbeats 8000000 in
set_option maxRecDepth 100000 in
theorem cringlelaw01_AsciiSigns.calls (k : Nat) (a0 : Int) (r : Bool) (w : World) (h : cringlelaw01_AsciiSigns.f k a0 = some r) (htrue : Aside0 (r = true)) :
    Calls Try.prog 3 #[.int .u8 a0] w fun e w' => e = .returned (.bool r) ∧ Below w.heap.size w w' := by
  have HB := Aside0.mk (Below.refl w.heap.size w)
  have H : ((ascii_IsBlank.f a0).bind fun t140 => ((cringleref01_IsBlank.f a0).bind fun t141 => (if (t140 == t141) = true then ((ascii_IsDigit.f a0).bind fun t142 => ((cringleref01_IsDigit.f a0).bind fun t143 => (if (t142 == t143) = true then ((ascii_IsLetter.f a0).bind fun t144 => ((cringleref01_IsLetter.f a0).bind fun t145 => (if (t144 == t145) = true then ((cringlelaw01_alive.f k).bind fun t146 => (some t146)) else (some false)))) else (some false)))) else (some false)))) = some r := h
  clear h
  replace H := Option.bind_eq_some_iff.mp H
  obtain ⟨t140, A20, H⟩ := H
  replace H : ((cringleref01_IsBlank.f a0).bind fun t141 => (if (t140 == t141) = true then ((ascii_IsDigit.f a0).bind fun t142 => ((cringleref01_IsDigit.f a0).bind fun t143 => (if (t142 == t143) = true then ((ascii_IsLetter.f a0).bind fun t144 => ((cringleref01_IsLetter.f a0).bind fun t145 => (if (t144 == t145) = true then ((cringlelaw01_alive.f k).bind fun t146 => (some t146)) else (some false)))) else (some false)))) else (some false))) = some r := H
  have A2 := Aside0.mk A20
  clear A20
  replace H := Option.bind_eq_some_iff.mp H
  obtain ⟨t141, A30, H⟩ := H
  replace H : (if (t140 == t141) = true then ((ascii_IsDigit.f a0).bind fun t142 => ((cringleref01_IsDigit.f a0).bind fun t143 => (if (t142 == t143) = true then ((ascii_IsLetter.f a0).bind fun t144 => ((cringleref01_IsLetter.f a0).bind fun t145 => (if (t144 == t145) = true then ((cringlelaw01_alive.f k).bind fun t146 => (some t146)) else (some false)))) else (some false)))) else (some false)) = some r := H
  have A3 := Aside0.mk A30
  clear A30
  by_cases c4 : (t140 == t141) = true
  · rw [if_pos c4] at H
    have c4b0 : (t140 == t141) = true := c4
    (try (have c4b1 : decide (t140 = t141) = true := by simpa using c4))
    (try (have c4b2 : (t140 == t141) = true := by simpa using c4))
    clear c4
    replace H := Option.bind_eq_some_iff.mp H
    obtain ⟨t142, A50, H⟩ := H
    replace H : ((cringleref01_IsDigit.f a0).bind fun t143 => (if (t142 == t143) = true then ((ascii_IsLetter.f a0).bind fun t144 => ((cringleref01_IsLetter.f a0).bind fun t145 => (if (t144 == t145) = true then ((cringlelaw01_alive.f k).bind fun t146 => (some t146)) else (some false)))) else (some false))) = some r := H
    have A5 := Aside0.mk A50
    clear A50
    replace H := Option.bind_eq_some_iff.mp H
    obtain ⟨t143, A60, H⟩ := H
    replace H : (if (t142 == t143) = true then ((ascii_IsLetter.f a0).bind fun t144 => ((cringleref01_IsLetter.f a0).bind fun t145 => (if (t144 == t145) = true then ((cringlelaw01_alive.f k).bind fun t146 => (some t146)) else (some false)))) else (some false)) = some r := H
    have A6 := Aside0.mk A60
    clear A60
    by_cases c7 : (t142 == t143) = true
    · rw [if_pos c7] at H
      have c7b0 : (t142 == t143) = true := c7
      (try (have c7b1 : decide (t142 = t143) = true := by simpa using c7))
      (try (have c7b2 : (t142 == t143) = true := by simpa using c7))
      clear c7
      replace H := Option.bind_eq_some_iff.mp H
      obtain ⟨t144, A80, H⟩ := H
      replace H : ((cringleref01_IsLetter.f a0).bind fun t145 => (if (t144 == t145) = true then ((cringlelaw01_alive.f k).bind fun t146 => (some t146)) else (some false))) = some r := H
      have A8 := Aside0.mk A80
      clear A80
      replace H := Option.bind_eq_some_iff.mp H
      obtain ⟨t145, A90, H⟩ := H
      replace H : (if (t144 == t145) = true then ((cringlelaw01_alive.f k).bind fun t146 => (some t146)) else (some false)) = some r := H
      have A9 := Aside0.mk A90
      clear A90
      by_cases c10 : (t144 == t145) = true
      · rw [if_pos c10] at H
        have c10b0 : (t144 == t145) = true := c10
        (try (have c10b1 : decide (t144 = t145) = true := by simpa using c10))
        (try (have c10b2 : (t144 == t145) = true := by simpa using c10))
        clear c10
        replace H := Option.bind_eq_some_iff.mp H
        obtain ⟨t146, A110, H⟩ := H
        replace H : (some t146) = some r := H
        have A11 := Aside0.mk A110
        clear A110
        obtain rfl := Option.some.inj H
        go_enter Try.func3, Try.ntmps3
        go_wp2_with (first | ((with_reducible refine gate_callee (f := 9) rfl ?_); refine goesL_ (some 4) rfl rfl Try.func9 (by kernel_rfl) rfl #[.int .u8 a0] rfl (by (try simp only [List.map_toArray, List.map_cons, List.map_nil]); first | done | rfl | (simp only [List.length_drop, List.length_take]; rfl)) ?_; (with_reducible refine (ascii_IsBlank.calls a0 t140 _ A2.out).mono ?_); rintro e w' ⟨rfl, ⟨nd, rfl⟩⟩; refine ⟨_, rfl, ?_⟩) | ((with_reducible refine gate_callee (f := 10) rfl ?_); refine goesL_ (some 6) rfl rfl Try.func10 (by kernel_rfl) rfl #[.int .u8 a0] rfl (by (try simp only [List.map_toArray, List.map_cons, List.map_nil]); first | done | rfl | (simp only [List.length_drop, List.length_take]; rfl)) ?_; (with_reducible refine (cringleref01_IsBlank.calls a0 t141 _ A3.out).mono ?_); rintro e w' ⟨rfl, ⟨nd, rfl⟩⟩; refine ⟨_, rfl, ?_⟩) | (go_at_call 11; (with_reducible refine (ascii_IsDigit.calls a0 t142 _ A5.out).mono ?_); rintro e w' ⟨rfl, ⟨nd, rfl⟩⟩) | (go_at_call 12; (with_reducible refine (cringleref01_IsDigit.calls a0 t143 _ A6.out).mono ?_); rintro e w' ⟨rfl, ⟨nd, rfl⟩⟩) | (go_at_call 13; (with_reducible refine (ascii_IsLetter.calls a0 t144 _ A8.out).mono ?_); rintro e w' ⟨rfl, ⟨nd, rfl⟩⟩) | (go_at_call 14; (with_reducible refine (cringleref01_IsLetter.calls a0 t145 _ A9.out).mono ?_); rintro e w' ⟨rfl, ⟨nd, rfl⟩⟩) | (go_at_call 15; (with_reducible refine (cringlelaw01_alive.calls k  t146 _ A11.out).mono ?_); rintro e w12 ⟨rfl, hb⟩; have n0_ := Aside0.mk (below_step (by repeat (first | (with_reducible first | exact HB.out | apply below_alloc | apply pw_below_drewN | apply below_drew1) | exact HB.out)) hb); clear HB; have HB := n0_; clear n0_; (try clear hb); (try clear hb2); (try clear hk); (try clear hi)))
        go_ret
        exact ⟨by first | rfl | (simp [errW_none, errW_some] <;> rfl) | (simp [*, errW_none, errW_some] <;> rfl), by repeat (first | (with_reducible first | exact HB.out | apply below_alloc | apply pw_below_drewN | apply below_drew1) | exact HB.out)⟩
      · rw [if_neg c10] at H
        have c10b0 : (t144 == t145) = false := by simpa using c10
        (try (have c10b1 : decide (t144 = t145) = false := by simpa using c10))
        (try (have c10b2 : (t144 == t145) = false := by simpa using c10))
        (try (have c10b3 : ¬ (t144 = t145) := by simpa using c10))
        clear c10
        exact absurd (Option.some.inj H) (by rw [htrue.out]; decide)
    · rw [if_neg c7] at H
      have c7b0 : (t142 == t143) = false := by simpa using c7
      (try (have c7b1 : decide (t142 = t143) = false := by simpa using c7))
      (try (have c7b2 : (t142 == t143) = false := by simpa using c7))
      (try (have c7b3 : ¬ (t142 = t143) := by simpa using c7))
      clear c7
      exact absurd (Option.some.inj H) (by rw [htrue.out]; decide)
  · rw [if_neg c4] at H
    have c4b0 : (t140 == t141) = false := by simpa using c4
    (try (have c4b1 : decide (t140 = t141) = false := by simpa using c4))
    (try (have c4b2 : (t140 == t141) = false := by simpa using c4))
    (try (have c4b3 : ¬ (t140 = t141) := by simpa using c4))
    clear c4
    exact absurd (Option.some.inj H) (by rw [htrue.out]; decide)

/-! ### ascii_Text: function 16 -/
def ascii_Text.f (k : Nat) (a0 : Int) : Option (ByteArray) := (ascii_Pad.f k a0 1).bind fun t147 => (some t147)
theorem ascii_Text.mono : ∀ a0 k, LeO (ascii_Text.f k a0) (ascii_Text.f (k + 1) a0) := by
  intro a0 k
  unfold ascii_Text.f
  repeat' first
      | (with_reducible exact ascii_Pad.mono _ _ _)
      | (with_reducible exact LeO.refl _)
      | (with_reducible exact LeO.none _)
      | (with_reducible refine LeO.ite ?_ ?_)
      | (with_reducible refine LeO.bind ?_ (fun _ => ?_))
      | exact ascii_Pad.mono _ _ _
      | exact LeO.none _
      | refine LeO.ite ?_ ?_
      | refine LeO.bind ?_ (fun _ => ?_)
set_option maxHeartbeats 8000000 in
set_option maxRecDepth 100000 in
theorem ascii_Text.calls (k : Nat) (a0 : Int) (r : ByteArray) (w : World) (h : ascii_Text.f k a0 = some r) :
    Calls Try.prog 16 #[.int .i64 a0] w fun e w' => e = .returned (.string r) ∧ Below w.heap.size w w' := by
  have HB := Aside0.mk (Below.refl w.heap.size w)
  have H : ((ascii_Pad.f k a0 1).bind fun t147 => (some t147)) = some r := h
  clear h
  replace H := Option.bind_eq_some_iff.mp H
  obtain ⟨t147, A20, H⟩ := H
  replace H : (some t147) = some r := H
  have A2 := Aside0.mk A20
  clear A20
  obtain rfl := Option.some.inj H
  go_enter Try.func16, Try.ntmps16
  go_wp2_with (first | ((with_reducible refine gate_callee (f := 18) rfl ?_); refine goesL_ (some 4) rfl rfl Try.func18 (by kernel_rfl) rfl #[.int .i64 a0, .int .i64 1] rfl (by (try simp only [List.map_toArray, List.map_cons, List.map_nil]); first | done | rfl | (simp only [List.length_drop, List.length_take]; rfl)) ?_; (with_reducible refine (ascii_Pad.calls k a0 1 t147 _ A2.out).mono ?_); rintro e w3 ⟨rfl, hb⟩; refine ⟨_, rfl, ?_⟩; have n0_ := Aside0.mk (below_step (by repeat (first | (with_reducible first | exact HB.out | apply below_alloc | apply pw_below_drewN | apply below_drew1) | exact HB.out)) hb); clear HB; have HB := n0_; clear n0_; (try clear hb); (try clear hb2); (try clear hk); (try clear hi)))
  go_ret
  exact ⟨by first | rfl | (simp [errW_none, errW_some] <;> rfl) | (simp [*, errW_none, errW_some] <;> rfl), by repeat (first | (with_reducible first | exact HB.out | apply below_alloc | apply pw_below_drewN | apply below_drew1) | exact HB.out)⟩

end Go.Proofs.Ytgbpmhkaobjnpaa.Q
