-- printed by a program of the session's own; Lean checks it
import Derived.Test.YtgbpmhkaobjnpaaDoorQ0
import Derived.Test.YtgbpmhkaobjnpaaDoorQ1
import Derived.Test.YtgbpmhkaobjnpaaDoorQ2
import Derived.Test.YtgbpmhkaobjnpaaDoorQ4
import Derived.Test.YtgbpmhkaobjnpaaDoorQ9
import Derived.Test.YtgbpmhkaobjnpaaDoorQ10
import Derived.Test.YtgbpmhkaobjnpaaDoorQ11
import Derived.Test.YtgbpmhkaobjnpaaDoorQ12
import Derived.Test.YtgbpmhkaobjnpaaDoorQ13
import Derived.Test.YtgbpmhkaobjnpaaDoorQ14
import Derived.Test.YtgbpmhkaobjnpaaDoorQ16
namespace Go.Proofs.YtgbpmhkaobjnpaaDoor.Q
open Go.RowKit Go.Proofs.YtgbpmhkaobjnpaaDoorW.PrintWords Go.Proofs.YtgbpmhkaobjnpaaDoorW.PrintLast Go.Proofs.YtgbpmhkaobjnpaaDoorW.PrintMore
attribute [local go_sem] max2_int min2_int max_two min_two max_three min_three max_four min_four   -- for this text's walks alone
set_option linter.unusedVariables false
set_option linter.unusedSimpArgs false

/-! ### cringlelaw01_AsciiTexts: function 3 -/
def cringlelaw01_AsciiTexts.j0 : Nat → ByteArray → ByteArray → Bool → Option (Bool)
  | 0, _, _, _ => none
  | k + 1, x0, x1, x10 => if x10 = true then ((cringlelaw01_alive.f k).bind fun t169 => (some t169)) else ((ascii_Lower.f x0).bind fun t170 => ((cringleref01_Lower.f k x0).bind fun t171 => (if t170.toList = t171.toList then ((ascii_Same.f x0 x1).bind fun t172 => ((cringleref01_Lower.f k x0).bind fun t173 => ((cringleref01_Lower.f k x1).bind fun t174 => (if (t172 == (t173.toList == t174.toList)) = true then ((ascii_Trim.f x0).bind fun t175 => ((cringleref01_Trim.f k x0).bind fun t176 => (if t175.toList = t176.toList then ((ascii_Words.f k x0).bind fun t177 => ((cringleref01_Words.f k x0).bind fun t180 => ((cringleref01_Texts.f k t177 t180).bind fun t183 => (if t183 = true then ((ascii_Squeeze.f k x0).bind fun t184 => ((cringleref01_Squeeze.f k x0).bind fun t185 => (if t184.toList = t185.toList then ((cringlelaw01_alive.f k).bind fun t186 => (some t186)) else (some false)))) else (some false))))) else (some false)))) else (some false))))) else (some false))))
def cringlelaw01_AsciiTexts.f (k : Nat) (a0 : ByteArray) (a1 : ByteArray) : Option (Bool) := (cringlelaw01_long.f a0).bind fun t167 => (if t167 = true then (cringlelaw01_AsciiTexts.j0 k a0 a1 true) else ((cringlelaw01_long.f a1).bind fun t168 => (cringlelaw01_AsciiTexts.j0 k a0 a1 t168)))
theorem cringlelaw01_AsciiTexts.mono_l : ∀ k, (∀ y0 y1 y2, LeO (cringlelaw01_AsciiTexts.j0 k y0 y1 y2) (cringlelaw01_AsciiTexts.j0 (k + 1) y0 y1 y2))
  | 0 => fun _ _ _ r h => by simp [cringlelaw01_AsciiTexts.j0] at h
  | k + 1 => by
    have ih0 := cringlelaw01_AsciiTexts.mono_l k
    · intro y0 y1 y2
      unfold cringlelaw01_AsciiTexts.j0
      repeat' first
      | (with_reducible exact ih0 _ _ _)
      | (with_reducible exact ascii_Squeeze.mono _ _)
      | (with_reducible exact ascii_Words.mono _ _)
      | (with_reducible exact cringlelaw01_alive.mono _)
      | (with_reducible exact cringleref01_Lower.mono _ _)
      | (with_reducible exact cringleref01_Squeeze.mono _ _)
      | (with_reducible exact cringleref01_Texts.mono _ _ _)
      | (with_reducible exact cringleref01_Trim.mono _ _)
      | (with_reducible exact cringleref01_Words.mono _ _)
      | (with_reducible exact LeO.refl _)
      | (with_reducible exact LeO.none _)
      | (with_reducible refine LeO.ite ?_ ?_)
      | (with_reducible refine LeO.bind ?_ (fun _ => ?_))
      | exact ih0 _ _ _
      | exact ascii_Squeeze.mono _ _
      | exact ascii_Words.mono _ _
      | exact cringlelaw01_alive.mono _
      | exact cringleref01_Lower.mono _ _
      | exact cringleref01_Squeeze.mono _ _
      | exact cringleref01_Texts.mono _ _ _
      | exact cringleref01_Trim.mono _ _
      | exact cringleref01_Words.mono _ _
      | exact LeO.none _
      | refine LeO.ite ?_ ?_
      | refine LeO.bind ?_ (fun _ => ?_)
theorem cringlelaw01_AsciiTexts.mono : ∀ a0 a1 k, LeO (cringlelaw01_AsciiTexts.f k a0 a1) (cringlelaw01_AsciiTexts.f (k + 1) a0 a1) := by
  intro a0 a1 k
  have ih0 := cringlelaw01_AsciiTexts.mono_l k
  unfold cringlelaw01_AsciiTexts.f
  repeat' first
      | (with_reducible exact ih0 _ _ _)
      | (with_reducible exact ascii_Squeeze.mono _ _)
      | (with_reducible exact ascii_Words.mono _ _)
      | (with_reducible exact cringlelaw01_alive.mono _)
      | (with_reducible exact cringleref01_Lower.mono _ _)
      | (with_reducible exact cringleref01_Squeeze.mono _ _)
      | (with_reducible exact cringleref01_Texts.mono _ _ _)
      | (with_reducible exact cringleref01_Trim.mono _ _)
      | (with_reducible exact cringleref01_Words.mono _ _)
      | (with_reducible exact LeO.refl _)
      | (with_reducible exact LeO.none _)
      | (with_reducible refine LeO.ite ?_ ?_)
      | (with_reducible refine LeO.bind ?_ (fun _ => ?_))
      | exact ih0 _ _ _
      | exact ascii_Squeeze.mono _ _
      | exact ascii_Words.mono _ _
      | exact cringlelaw01_alive.mono _
      | exact cringleref01_Lower.mono _ _
      | exact cringleref01_Squeeze.mono _ _
      | exact cringleref01_Texts.mono _ _ _
      | exact cringleref01_Trim.mono _ _
      | exact cringleref01_Words.mono _ _
      | exact LeO.none _
      | refine LeO.ite ?_ ?_
      | refine LeO.bind ?_ (fun _ => ?_)
set_option maxHeartbeats 8000000 in
set_option maxRecDepth 100000 in
theorem cringlelaw01_AsciiTexts.calls (k : Nat) (a0 : ByteArray) (a1 : ByteArray) (r : Bool) (w : World) (h : cringlelaw01_AsciiTexts.f k a0 a1 = some r) (htrue : Aside0 (r = true)) :
    Calls Tryd.prog 3 #[.string a0, .string a1] w fun e w' => e = .returned (.bool r) ∧ Below w.heap.size w w' := by
  have HB := Aside0.mk (Below.refl w.heap.size w)
  have H : ((cringlelaw01_long.f a0).bind fun t167 => (if t167 = true then (cringlelaw01_AsciiTexts.j0 k a0 a1 true) else ((cringlelaw01_long.f a1).bind fun t168 => (cringlelaw01_AsciiTexts.j0 k a0 a1 t168)))) = some r := h
  clear h
  have HC3 := Aside0.mk H
  clear H
  go_enter Tryd.func3, Tryd.ntmps3
  go_upto_region 1 with (fail)
  go_cut [10] (fun v10 wc => ∃ (kq : Nat) (x10_2 : Bool), v10 = .bool x10_2 ∧ Aside0 (cringlelaw01_AsciiTexts.j0 kq a0 a1 x10_2 = some r) ∧ Aside0 (kq ≤ k) ∧ Aside0 (Below w.heap.size w wc))
  case first =>
    have H := HC3.out
    clear HC3
    replace H := Option.bind_eq_some_iff.mp H
    obtain ⟨t167, A40, H⟩ := H
    replace H : (if t167 = true then (cringlelaw01_AsciiTexts.j0 k a0 a1 true) else ((cringlelaw01_long.f a1).bind fun t168 => (cringlelaw01_AsciiTexts.j0 k a0 a1 t168))) = some r := H
    have A4 := Aside0.mk A40
    clear A40
    by_cases c5 : t167 = true
    · subst c5
      have H1 : (cringlelaw01_AsciiTexts.j0 k a0 a1 true) = some r := by rw [if_pos rfl] at H; exact H
      clear H
      have H := H1
      clear H1
      have H' := Aside0.mk H
      clear H
      go_wp2_with (first | ((with_reducible refine gate_callee (f := 5) rfl ?_); refine goesL_ (some 6) rfl rfl Tryd.func5 (by kernel_rfl) rfl #[.string a0] rfl (by (try simp only [List.map_toArray, List.map_cons, List.map_nil]); first | done | rfl | (simp only [List.length_drop, List.length_take]; rfl)) ?_; (with_reducible refine (cringlelaw01_long.calls a0 true _ A4.out).mono ?_); rintro e w' ⟨rfl, ⟨nd, rfl⟩⟩; refine ⟨_, rfl, ?_⟩))
      go_meet
      case rel => exact ⟨_, (true), (by first | rfl | (simp; done) | (simp [*]; done)), H', ⟨by first | omega | exact Nat.le_refl _⟩, ⟨by repeat (first | (with_reducible first | exact HB.out | apply below_alloc | apply pw_below_drewN | apply below_drew1) | exact HB.out)⟩⟩
    · replace c5 := Bool.eq_false_iff.mpr c5
      subst c5
      have H1 : ((cringlelaw01_long.f a1).bind fun t168 => (cringlelaw01_AsciiTexts.j0 k a0 a1 t168)) = some r := by rw [if_neg (show ¬ (false = true) by decide)] at H; exact H
      clear H
      have H := H1
      clear H1
      replace H := Option.bind_eq_some_iff.mp H
      obtain ⟨t168, A60, H⟩ := H
      replace H : (cringlelaw01_AsciiTexts.j0 k a0 a1 t168) = some r := H
      have A6 := Aside0.mk A60
      clear A60
      have H' := Aside0.mk H
      clear H
      go_wp2_with (first | ((with_reducible refine gate_callee (f := 5) rfl ?_); refine goesL_ (some 6) rfl rfl Tryd.func5 (by kernel_rfl) rfl #[.string a0] rfl (by (try simp only [List.map_toArray, List.map_cons, List.map_nil]); first | done | rfl | (simp only [List.length_drop, List.length_take]; rfl)) ?_; (with_reducible refine (cringlelaw01_long.calls a0 false _ A4.out).mono ?_); rintro e w' ⟨rfl, ⟨nd, rfl⟩⟩; refine ⟨_, rfl, ?_⟩) | (go_at_call 5; (with_reducible refine (cringlelaw01_long.calls a1 t168 _ A6.out).mono ?_); rintro e w' ⟨rfl, ⟨nd, rfl⟩⟩))
      go_meet
      case rel => exact ⟨_, (t168), (by first | rfl | (simp; done) | (simp [*]; done)), H', ⟨by first | omega | exact Nat.le_refl _⟩, ⟨by repeat (first | (with_reducible first | exact HB.out | apply below_alloc | apply pw_below_drewN | apply below_drew1) | exact HB.out)⟩⟩
  case rest =>
    clear HC3
    try clear p2
    try clear c3
    try clear c5
    obtain ⟨kq, x10_2, rfl, HA, HJ2, HB⟩ := hcut
    cases kq with
    | zero => exact absurd HA.out (by simp [cringlelaw01_AsciiTexts.j0])
    | succ kj2 =>
      have H := HA.out
      clear HA
      simp only [cringlelaw01_AsciiTexts.j0] at H
      by_cases c7 : x10_2 = true
      · subst c7
        have H1 : ((cringlelaw01_alive.f kj2).bind fun t169 => (some t169)) = some r := by rw [if_pos rfl] at H; exact H
        clear H
        have H := H1
        clear H1
        replace H := Option.bind_eq_some_iff.mp H
        obtain ⟨t169, A80, H⟩ := H
        replace H : (some t169) = some r := H
        have A8 := Aside0.mk A80
        clear A80
        obtain rfl := Option.some.inj H
        go_wp2_with (first | ((with_reducible refine gate_callee (f := 6) rfl ?_); refine goesL_ (some 11) rfl rfl Tryd.func6 (by kernel_rfl) rfl #[] rfl (by (try simp only [List.map_toArray, List.map_cons, List.map_nil]); first | done | rfl | (simp only [List.length_drop, List.length_take]; rfl)) ?_; (with_reducible refine (cringlelaw01_alive.calls kj2  t169 _ A8.out).mono ?_); rintro e w9 ⟨rfl, hb⟩; refine ⟨_, rfl, ?_⟩; have n0_ := Aside0.mk (below_step (by repeat (first | (with_reducible first | exact HB.out | apply below_alloc | apply pw_below_drewN | apply below_drew1) | exact HB.out)) hb); clear HB; have HB := n0_; clear n0_; (try clear hb); (try clear hb2); (try clear hk); (try clear hi)))
        go_ret
        exact ⟨by first | rfl | (simp [errW_none, errW_some] <;> rfl) | (simp [*, errW_none, errW_some] <;> rfl), by repeat (first | (with_reducible first | exact HB.out | apply below_alloc | apply pw_below_drewN | apply below_drew1) | exact HB.out)⟩
      · replace c7 := Bool.eq_false_iff.mpr c7
        subst c7
        have H1 : ((ascii_Lower.f a0).bind fun t170 => ((cringleref01_Lower.f kj2 a0).bind fun t171 => (if t170.toList = t171.toList then ((ascii_Same.f a0 a1).bind fun t172 => ((cringleref01_Lower.f kj2 a0).bind fun t173 => ((cringleref01_Lower.f kj2 a1).bind fun t174 => (if (t172 == (t173.toList == t174.toList)) = true then ((ascii_Trim.f a0).bind fun t175 => ((cringleref01_Trim.f kj2 a0).bind fun t176 => (if t175.toList = t176.toList then ((ascii_Words.f kj2 a0).bind fun t177 => ((cringleref01_Words.f kj2 a0).bind fun t180 => ((cringleref01_Texts.f kj2 t177 t180).bind fun t183 => (if t183 = true then ((ascii_Squeeze.f kj2 a0).bind fun t184 => ((cringleref01_Squeeze.f kj2 a0).bind fun t185 => (if t184.toList = t185.toList then ((cringlelaw01_alive.f kj2).bind fun t186 => (some t186)) else (some false)))) else (some false))))) else (some false)))) else (some false))))) else (some false)))) = some r := by rw [if_neg (show ¬ (false = true) by decide)] at H; exact H
        clear H
        have H := H1
        clear H1
        replace H := Option.bind_eq_some_iff.mp H
        obtain ⟨t170, A100, H⟩ := H
        replace H : ((cringleref01_Lower.f kj2 a0).bind fun t171 => (if t170.toList = t171.toList then ((ascii_Same.f a0 a1).bind fun t172 => ((cringleref01_Lower.f kj2 a0).bind fun t173 => ((cringleref01_Lower.f kj2 a1).bind fun t174 => (if (t172 == (t173.toList == t174.toList)) = true then ((ascii_Trim.f a0).bind fun t175 => ((cringleref01_Trim.f kj2 a0).bind fun t176 => (if t175.toList = t176.toList then ((ascii_Words.f kj2 a0).bind fun t177 => ((cringleref01_Words.f kj2 a0).bind fun t180 => ((cringleref01_Texts.f kj2 t177 t180).bind fun t183 => (if t183 = true then ((ascii_Squeeze.f kj2 a0).bind fun t184 => ((cringleref01_Squeeze.f kj2 a0).bind fun t185 => (if t184.toList = t185.toList then ((cringlelaw01_alive.f kj2).bind fun t186 => (some t186)) else (some false)))) else (some false))))) else (some false)))) else (some false))))) else (some false))) = some r := H
        have A10 := Aside0.mk A100
        clear A100
        replace H := Option.bind_eq_some_iff.mp H
        obtain ⟨t171, A110, H⟩ := H
        replace H : (if t170.toList = t171.toList then ((ascii_Same.f a0 a1).bind fun t172 => ((cringleref01_Lower.f kj2 a0).bind fun t173 => ((cringleref01_Lower.f kj2 a1).bind fun t174 => (if (t172 == (t173.toList == t174.toList)) = true then ((ascii_Trim.f a0).bind fun t175 => ((cringleref01_Trim.f kj2 a0).bind fun t176 => (if t175.toList = t176.toList then ((ascii_Words.f kj2 a0).bind fun t177 => ((cringleref01_Words.f kj2 a0).bind fun t180 => ((cringleref01_Texts.f kj2 t177 t180).bind fun t183 => (if t183 = true then ((ascii_Squeeze.f kj2 a0).bind fun t184 => ((cringleref01_Squeeze.f kj2 a0).bind fun t185 => (if t184.toList = t185.toList then ((cringlelaw01_alive.f kj2).bind fun t186 => (some t186)) else (some false)))) else (some false))))) else (some false)))) else (some false))))) else (some false)) = some r := H
        have A11 := Aside0.mk A110
        clear A110
        by_cases c12 : t170.toList = t171.toList
        · rw [if_pos c12] at H
          have c12b0 : (t170.toList == t171.toList) = true := beq_iff_eq.mpr c12
          have c12b1 : (t170.toList != t171.toList) = false := bne_eq_false_iff_eq.mpr c12
          clear c12
          replace H := Option.bind_eq_some_iff.mp H
          obtain ⟨t172, A130, H⟩ := H
          replace H : ((cringleref01_Lower.f kj2 a0).bind fun t173 => ((cringleref01_Lower.f kj2 a1).bind fun t174 => (if (t172 == (t173.toList == t174.toList)) = true then ((ascii_Trim.f a0).bind fun t175 => ((cringleref01_Trim.f kj2 a0).bind fun t176 => (if t175.toList = t176.toList then ((ascii_Words.f kj2 a0).bind fun t177 => ((cringleref01_Words.f kj2 a0).bind fun t180 => ((cringleref01_Texts.f kj2 t177 t180).bind fun t183 => (if t183 = true then ((ascii_Squeeze.f kj2 a0).bind fun t184 => ((cringleref01_Squeeze.f kj2 a0).bind fun t185 => (if t184.toList = t185.toList then ((cringlelaw01_alive.f kj2).bind fun t186 => (some t186)) else (some false)))) else (some false))))) else (some false)))) else (some false)))) = some r := H
          have A13 := Aside0.mk A130
          clear A130
          replace H := Option.bind_eq_some_iff.mp H
          obtain ⟨t173, A140, H⟩ := H
          replace H : ((cringleref01_Lower.f kj2 a1).bind fun t174 => (if (t172 == (t173.toList == t174.toList)) = true then ((ascii_Trim.f a0).bind fun t175 => ((cringleref01_Trim.f kj2 a0).bind fun t176 => (if t175.toList = t176.toList then ((ascii_Words.f kj2 a0).bind fun t177 => ((cringleref01_Words.f kj2 a0).bind fun t180 => ((cringleref01_Texts.f kj2 t177 t180).bind fun t183 => (if t183 = true then ((ascii_Squeeze.f kj2 a0).bind fun t184 => ((cringleref01_Squeeze.f kj2 a0).bind fun t185 => (if t184.toList = t185.toList then ((cringlelaw01_alive.f kj2).bind fun t186 => (some t186)) else (some false)))) else (some false))))) else (some false)))) else (some false))) = some r := H
          have A14 := Aside0.mk A140
          obtain rfl := Option.some.inj (A11.out.symm.trans A14.out)
          clear A140
          replace H := Option.bind_eq_some_iff.mp H
          obtain ⟨t174, A150, H⟩ := H
          replace H : (if (t172 == (t171.toList == t174.toList)) = true then ((ascii_Trim.f a0).bind fun t175 => ((cringleref01_Trim.f kj2 a0).bind fun t176 => (if t175.toList = t176.toList then ((ascii_Words.f kj2 a0).bind fun t177 => ((cringleref01_Words.f kj2 a0).bind fun t180 => ((cringleref01_Texts.f kj2 t177 t180).bind fun t183 => (if t183 = true then ((ascii_Squeeze.f kj2 a0).bind fun t184 => ((cringleref01_Squeeze.f kj2 a0).bind fun t185 => (if t184.toList = t185.toList then ((cringlelaw01_alive.f kj2).bind fun t186 => (some t186)) else (some false)))) else (some false))))) else (some false)))) else (some false)) = some r := H
          have A15 := Aside0.mk A150
          clear A150
          by_cases c16 : (t172 == (t171.toList == t174.toList)) = true
          · rw [if_pos c16] at H
            have c16b0 : (t172 == (t171.toList == t174.toList)) = true := c16
            (try (have c16b1 : decide (t172 = (t171.toList == t174.toList)) = true := by simpa using c16))
            (try (have c16b2 : (t172 == (t171.toList == t174.toList)) = true := by simpa using c16))
            clear c16
            replace H := Option.bind_eq_some_iff.mp H
            obtain ⟨t175, A170, H⟩ := H
            replace H : ((cringleref01_Trim.f kj2 a0).bind fun t176 => (if t175.toList = t176.toList then ((ascii_Words.f kj2 a0).bind fun t177 => ((cringleref01_Words.f kj2 a0).bind fun t180 => ((cringleref01_Texts.f kj2 t177 t180).bind fun t183 => (if t183 = true then ((ascii_Squeeze.f kj2 a0).bind fun t184 => ((cringleref01_Squeeze.f kj2 a0).bind fun t185 => (if t184.toList = t185.toList then ((cringlelaw01_alive.f kj2).bind fun t186 => (some t186)) else (some false)))) else (some false))))) else (some false))) = some r := H
            have A17 := Aside0.mk A170
            clear A170
            replace H := Option.bind_eq_some_iff.mp H
            obtain ⟨t176, A180, H⟩ := H
            replace H : (if t175.toList = t176.toList then ((ascii_Words.f kj2 a0).bind fun t177 => ((cringleref01_Words.f kj2 a0).bind fun t180 => ((cringleref01_Texts.f kj2 t177 t180).bind fun t183 => (if t183 = true then ((ascii_Squeeze.f kj2 a0).bind fun t184 => ((cringleref01_Squeeze.f kj2 a0).bind fun t185 => (if t184.toList = t185.toList then ((cringlelaw01_alive.f kj2).bind fun t186 => (some t186)) else (some false)))) else (some false))))) else (some false)) = some r := H
            have A18 := Aside0.mk A180
            clear A180
            by_cases c19 : t175.toList = t176.toList
            · rw [if_pos c19] at H
              have c19b0 : (t175.toList == t176.toList) = true := beq_iff_eq.mpr c19
              have c19b1 : (t175.toList != t176.toList) = false := bne_eq_false_iff_eq.mpr c19
              clear c19
              replace H := Option.bind_eq_some_iff.mp H
              obtain ⟨t177, A200, H⟩ := H
              replace H : ((cringleref01_Words.f kj2 a0).bind fun t180 => ((cringleref01_Texts.f kj2 t177 t180).bind fun t183 => (if t183 = true then ((ascii_Squeeze.f kj2 a0).bind fun t184 => ((cringleref01_Squeeze.f kj2 a0).bind fun t185 => (if t184.toList = t185.toList then ((cringlelaw01_alive.f kj2).bind fun t186 => (some t186)) else (some false)))) else (some false)))) = some r := H
              have A20 := Aside0.mk A200
              clear A200
              replace H := Option.bind_eq_some_iff.mp H
              obtain ⟨t180, A210, H⟩ := H
              replace H : ((cringleref01_Texts.f kj2 t177 t180).bind fun t183 => (if t183 = true then ((ascii_Squeeze.f kj2 a0).bind fun t184 => ((cringleref01_Squeeze.f kj2 a0).bind fun t185 => (if t184.toList = t185.toList then ((cringlelaw01_alive.f kj2).bind fun t186 => (some t186)) else (some false)))) else (some false))) = some r := H
              have A21 := Aside0.mk A210
              clear A210
              replace H := Option.bind_eq_some_iff.mp H
              obtain ⟨t183, A220, H⟩ := H
              replace H : (if t183 = true then ((ascii_Squeeze.f kj2 a0).bind fun t184 => ((cringleref01_Squeeze.f kj2 a0).bind fun t185 => (if t184.toList = t185.toList then ((cringlelaw01_alive.f kj2).bind fun t186 => (some t186)) else (some false)))) else (some false)) = some r := H
              have A22 := Aside0.mk A220
              clear A220
              by_cases c23 : t183 = true
              · subst c23
                have H1 : ((ascii_Squeeze.f kj2 a0).bind fun t184 => ((cringleref01_Squeeze.f kj2 a0).bind fun t185 => (if t184.toList = t185.toList then ((cringlelaw01_alive.f kj2).bind fun t186 => (some t186)) else (some false)))) = some r := by rw [if_pos rfl] at H; exact H
                clear H
                have H := H1
                clear H1
                replace H := Option.bind_eq_some_iff.mp H
                obtain ⟨t184, A240, H⟩ := H
                replace H : ((cringleref01_Squeeze.f kj2 a0).bind fun t185 => (if t184.toList = t185.toList then ((cringlelaw01_alive.f kj2).bind fun t186 => (some t186)) else (some false))) = some r := H
                have A24 := Aside0.mk A240
                clear A240
                replace H := Option.bind_eq_some_iff.mp H
                obtain ⟨t185, A250, H⟩ := H
                replace H : (if t184.toList = t185.toList then ((cringlelaw01_alive.f kj2).bind fun t186 => (some t186)) else (some false)) = some r := H
                have A25 := Aside0.mk A250
                clear A250
                by_cases c26 : t184.toList = t185.toList
                · rw [if_pos c26] at H
                  have c26b0 : (t184.toList == t185.toList) = true := beq_iff_eq.mpr c26
                  have c26b1 : (t184.toList != t185.toList) = false := bne_eq_false_iff_eq.mpr c26
                  clear c26
                  replace H := Option.bind_eq_some_iff.mp H
                  obtain ⟨t186, A270, H⟩ := H
                  replace H : (some t186) = some r := H
                  have A27 := Aside0.mk A270
                  clear A270
                  obtain rfl := Option.some.inj H
                  go_wp2_with (first | ((with_reducible refine gate_callee (f := 7) rfl ?_); refine goesL_ (some 13) rfl rfl Tryd.func7 (by kernel_rfl) rfl #[.string a0] rfl (by (try simp only [List.map_toArray, List.map_cons, List.map_nil]); first | done | rfl | (simp only [List.length_drop, List.length_take]; rfl)) ?_; (with_reducible refine (ascii_Lower.calls a0 t170 _ A10.out).mono ?_); rintro e w28 ⟨rfl, hb⟩; refine ⟨_, rfl, ?_⟩; have n0_ := Aside0.mk (below_step (by repeat (first | (with_reducible first | exact HB.out | apply below_alloc | apply pw_below_drewN | apply below_drew1) | exact HB.out)) hb); clear HB; have HB := n0_; clear n0_; (try clear hb); (try clear hb2); (try clear hk); (try clear hi)) | ((with_reducible refine gate_callee (f := 8) rfl ?_); refine goesL_ (some 15) rfl rfl Tryd.func8 (by kernel_rfl) rfl #[.string a0] rfl (by (try simp only [List.map_toArray, List.map_cons, List.map_nil]); first | done | rfl | (simp only [List.length_drop, List.length_take]; rfl)) ?_; (with_reducible refine (cringleref01_Lower.calls kj2 a0 t171 _ A11.out).mono ?_); rintro e w29 ⟨rfl, hb⟩; refine ⟨_, rfl, ?_⟩; have n0_ := Aside0.mk (below_step (by repeat (first | (with_reducible first | exact HB.out | apply below_alloc | apply pw_below_drewN | apply below_drew1) | exact HB.out)) hb); clear HB; have HB := n0_; clear n0_; (try clear hb); (try clear hb2); (try clear hk); (try clear hi)) | (go_at_call 9; (with_reducible refine (ascii_Same.calls a0 a1 t172 _ A13.out).mono ?_); rintro e w30 ⟨rfl, hb⟩; have n0_ := Aside0.mk (below_step (by repeat (first | (with_reducible first | exact HB.out | apply below_alloc | apply pw_below_drewN | apply below_drew1) | exact HB.out)) hb); clear HB; have HB := n0_; clear n0_; (try clear hb); (try clear hb2); (try clear hk); (try clear hi)) | (go_at_call 8; (with_reducible refine (cringleref01_Lower.calls kj2 a0 t171 _ A14.out).mono ?_); rintro e w31 ⟨rfl, hb⟩; have n0_ := Aside0.mk (below_step (by repeat (first | (with_reducible first | exact HB.out | apply below_alloc | apply pw_below_drewN | apply below_drew1) | exact HB.out)) hb); clear HB; have HB := n0_; clear n0_; (try clear hb); (try clear hb2); (try clear hk); (try clear hi)) | (go_at_call 8; (with_reducible refine (cringleref01_Lower.calls kj2 a1 t174 _ A15.out).mono ?_); rintro e w32 ⟨rfl, hb⟩; have n0_ := Aside0.mk (below_step (by repeat (first | (with_reducible first | exact HB.out | apply below_alloc | apply pw_below_drewN | apply below_drew1) | exact HB.out)) hb); clear HB; have HB := n0_; clear n0_; (try clear hb); (try clear hb2); (try clear hk); (try clear hi)) | (go_at_call 10; (with_reducible refine (ascii_Trim.calls a0 t175 _ A17.out).mono ?_); rintro e w33 ⟨rfl, hb⟩; have n0_ := Aside0.mk (below_step (by repeat (first | (with_reducible first | exact HB.out | apply below_alloc | apply pw_below_drewN | apply below_drew1) | exact HB.out)) hb); clear HB; have HB := n0_; clear n0_; (try clear hb); (try clear hb2); (try clear hk); (try clear hi)) | (go_at_call 11; (with_reducible refine (cringleref01_Trim.calls kj2 a0 t176 _ A18.out).mono ?_); rintro e w' ⟨rfl, ⟨nd, rfl⟩⟩) | (go_at_call 13; (with_reducible refine (ascii_Words.calls kj2 a0 t177 _ A20.out).mono ?_); rintro e w34 ⟨v178, rfl, ho0, hb⟩; have n0_ := Aside0.mk (Kd.R_lower ho0 (below_size (by repeat (first | (with_reducible first | exact HB.out | apply below_alloc | apply pw_below_drewN | apply below_drew1) | exact HB.out)))); have n1_ := Aside0.mk (below_step (by repeat (first | (with_reducible first | exact HB.out | apply below_alloc | apply pw_below_drewN | apply below_drew1) | exact HB.out)) hb); clear HB; have HO179 := n0_; have HB := n1_; clear n0_ n1_; (try clear hb); (try clear hb2); (try clear hk); (try clear hi); (try clear ho0)) | (go_at_call 14; (with_reducible refine (cringleref01_Words.calls kj2 a0 t180 _ A21.out).mono ?_); rintro e w35 ⟨v181, rfl, ho0, hb⟩; have n0_ := Aside0.mk (Kd.R_elder' (by (with_reducible repeat (first | apply Kd.R_alloc | apply Kd.R_drewN | apply Kd.R_drew)); exact HO179.out) (Kd.R_base ho0) hb); have n1_ := Aside0.mk (Kd.R_lower (Kd.R_new' ho0 (Kd.R_lt (by (with_reducible repeat (first | apply Kd.R_alloc | apply Kd.R_drewN | apply Kd.R_drew)); exact HO179.out))) (below_size (by repeat (first | (with_reducible first | exact HB.out | apply below_alloc | apply pw_below_drewN | apply below_drew1) | exact HB.out)))); have n2_ := Aside0.mk (below_step (by repeat (first | (with_reducible first | exact HB.out | apply below_alloc | apply pw_below_drewN | apply below_drew1) | exact HB.out)) hb); clear HO179; clear HB; have HO179 := n0_; have HO182 := n1_; have HB := n2_; clear n0_ n1_ n2_; (try clear hb); (try clear hb2); (try clear hk); (try clear hi); (try clear ho0); obtain ⟨Ao36, co36, eo36⟩ := Kd.R_slice HO179.out; subst eo36; obtain ⟨Ao37, co37, eo37⟩ := Kd.R_slice HO182.out; subst eo37) | (go_at_call 12; (with_reducible refine (cringleref01_Texts.calls kj2 _ _ t177 _ _ t180 true _ ?side1 ?side2 ?side3 ?side4 A22.out).mono ?_); (case side1 => repeat (first | exact (Kd.R_reads' HO179.out).2.2 | (with_reducible refine Kd.C_alloc ?_ _) | (with_reducible refine Kd.C_drewN ?_ _) | (with_reducible refine Kd.C_drew ?_))); (case side2 => exact (Kd.R_reads' HO179.out).2.1); (case side3 => repeat (first | exact (Kd.R_reads' HO182.out).2.2 | (with_reducible refine Kd.C_alloc ?_ _) | (with_reducible refine Kd.C_drewN ?_ _) | (with_reducible refine Kd.C_drew ?_))); (case side4 => exact (Kd.R_reads' HO182.out).2.1); rintro e w' ⟨rfl, ⟨nd, rfl⟩⟩) | (go_at_call 15; (with_reducible refine (ascii_Squeeze.calls kj2 a0 t184 _ A24.out).mono ?_); rintro e w38 ⟨rfl, hb⟩; have n0_ := Aside0.mk (Kd.R_below (by (with_reducible repeat (first | apply Kd.R_alloc | apply Kd.R_drewN | apply Kd.R_drew)); exact HO179.out) hb); have n1_ := Aside0.mk (Kd.R_below (by (with_reducible repeat (first | apply Kd.R_alloc | apply Kd.R_drewN | apply Kd.R_drew)); exact HO182.out) hb); have n2_ := Aside0.mk (below_step (by repeat (first | (with_reducible first | exact HB.out | apply below_alloc | apply pw_below_drewN | apply below_drew1) | exact HB.out)) hb); clear HO179; clear HO182; clear HB; have HO179 := n0_; have HO182 := n1_; have HB := n2_; clear n0_ n1_ n2_; (try clear hb); (try clear hb2); (try clear hk); (try clear hi)) | (go_at_call 16; (with_reducible refine (cringleref01_Squeeze.calls kj2 a0 t185 _ A25.out).mono ?_); rintro e w39 ⟨rfl, hb⟩; have n0_ := Aside0.mk (Kd.R_below (by (with_reducible repeat (first | apply Kd.R_alloc | apply Kd.R_drewN | apply Kd.R_drew)); exact HO179.out) hb); have n1_ := Aside0.mk (Kd.R_below (by (with_reducible repeat (first | apply Kd.R_alloc | apply Kd.R_drewN | apply Kd.R_drew)); exact HO182.out) hb); have n2_ := Aside0.mk (below_step (by repeat (first | (with_reducible first | exact HB.out | apply below_alloc | apply pw_below_drewN | apply below_drew1) | exact HB.out)) hb); clear HO179; clear HO182; clear HB; have HO179 := n0_; have HO182 := n1_; have HB := n2_; clear n0_ n1_ n2_; (try clear hb); (try clear hb2); (try clear hk); (try clear hi)) | (go_at_call 6; (with_reducible refine (cringlelaw01_alive.calls kj2  t186 _ A27.out).mono ?_); rintro e w40 ⟨rfl, hb⟩; have n0_ := Aside0.mk (Kd.R_below (by (with_reducible repeat (first | apply Kd.R_alloc | apply Kd.R_drewN | apply Kd.R_drew)); exact HO179.out) hb); have n1_ := Aside0.mk (Kd.R_below (by (with_reducible repeat (first | apply Kd.R_alloc | apply Kd.R_drewN | apply Kd.R_drew)); exact HO182.out) hb); have n2_ := Aside0.mk (below_step (by repeat (first | (with_reducible first | exact HB.out | apply below_alloc | apply pw_below_drewN | apply below_drew1) | exact HB.out)) hb); clear HO179; clear HO182; clear HB; have HO179 := n0_; have HO182 := n1_; have HB := n2_; clear n0_ n1_ n2_; (try clear hb); (try clear hb2); (try clear hk); (try clear hi)))
                  go_ret
                  exact ⟨by first | rfl | (simp [errW_none, errW_some] <;> rfl) | (simp [*, errW_none, errW_some] <;> rfl), by repeat (first | (with_reducible first | exact HB.out | apply below_alloc | apply pw_below_drewN | apply below_drew1) | exact HB.out)⟩
                · rw [if_neg c26] at H
                  have c26b0 : (t184.toList == t185.toList) = false := beq_eq_false_iff_ne.mpr c26
                  have c26b1 : (t184.toList != t185.toList) = true := bne_iff_ne.mpr c26
                  exact absurd (Option.some.inj H) (by rw [htrue.out]; decide)
              · replace c23 := Bool.eq_false_iff.mpr c23
                subst c23
                have H1 : (some false) = some r := by rw [if_neg (show ¬ (false = true) by decide)] at H; exact H
                clear H
                have H := H1
                clear H1
                exact absurd (Option.some.inj H) (by rw [htrue.out]; decide)
            · rw [if_neg c19] at H
              have c19b0 : (t175.toList == t176.toList) = false := beq_eq_false_iff_ne.mpr c19
              have c19b1 : (t175.toList != t176.toList) = true := bne_iff_ne.mpr c19
              exact absurd (Option.some.inj H) (by rw [htrue.out]; decide)
          · rw [if_neg c16] at H
            have c16b0 : (t172 == (t171.toList == t174.toList)) = false := by simpa using c16
            (try (have c16b1 : decide (t172 = (t171.toList == t174.toList)) = false := by simpa using c16))
            (try (have c16b2 : (t172 == (t171.toList == t174.toList)) = false := by simpa using c16))
            (try (have c16b3 : ¬ (t172 = (t171.toList == t174.toList)) := by simpa using c16))
            clear c16
            exact absurd (Option.some.inj H) (by rw [htrue.out]; decide)
        · rw [if_neg c12] at H
          have c12b0 : (t170.toList == t171.toList) = false := beq_eq_false_iff_ne.mpr c12
          have c12b1 : (t170.toList != t171.toList) = true := bne_iff_ne.mpr c12
          exact absurd (Option.some.inj H) (by rw [htrue.out]; decide)

end Go.Proofs.YtgbpmhkaobjnpaaDoor.Q
