-- printed by a program of the session's own; Lean checks it
import Derived.Test.YtgbpmhkaobjnpaaDoorQ0
import Derived.Test.YtgbpmhkaobjnpaaDoorQ1
import Derived.Test.YtgbpmhkaobjnpaaDoorQ2
import Derived.Test.YtgbpmhkaobjnpaaDoorQ4
import Derived.Test.YtgbpmhkaobjnpaaDoorQ9
import Derived.Test.YtgbpmhkaobjnpaaDoorQ11
import Derived.Test.YtgbpmhkaobjnpaaDoorQ14
namespace Go.Proofs.YtgbpmhkaobjnpaaDoor.Q
open Go.RowKit Go.Proofs.YtgbpmhkaobjnpaaDoorW.PrintWords Go.Proofs.YtgbpmhkaobjnpaaDoorW.PrintLast Go.Proofs.YtgbpmhkaobjnpaaDoorW.PrintMore
attribute [local go_sem] max2_int min2_int max_two min_two max_three min_three max_four min_four   -- for this text's walks alone
set_option linter.unusedVariables false
set_option linter.unusedSimpArgs false

/-! ### cringlelaw01_AsciiTwice: function 4 -/
def cringlelaw01_AsciiTwice.l0 : Nat → ByteArray → List ByteArray → Int → Int → Option (Bool)
  | 0, _, _, _, _ => none
  | k + 1, x0, x12, x13, x14 => if x14 < x13 then (if 0 ≤ x14 then (if x14 < (x12.length : Int) then (if (rdOf ByteArray.empty x12 x14).toList = ([] : List UInt8) then (some false) else ((ascii_Words.f k (rdOf ByteArray.empty x12 x14)).bind fun t193 => (if (t193.length : Int) = 1 then ((ascii_Trim.f (rdOf ByteArray.empty x12 x14)).bind fun t196 => (if t196.toList = (rdOf ByteArray.empty x12 x14).toList then (cringlelaw01_AsciiTwice.l0 k x0 x12 x13 (wrap64 (x14 + 1))) else (some false))) else (some false)))) else (none)) else (none)) else ((ascii_Lower.f x0).bind fun t197 => ((ascii_Trim.f x0).bind fun t198 => ((ascii_Squeeze.f k x0).bind fun t199 => ((ascii_Lower.f t197).bind fun t200 => (if t200.toList = t197.toList then ((ascii_Trim.f t198).bind fun t201 => (if t201.toList = t198.toList then ((ascii_Squeeze.f k t199).bind fun t202 => (if t202.toList = t199.toList then ((ascii_Trim.f t199).bind fun t203 => (if t203.toList = t199.toList then ((ascii_Words.f k t199).bind fun t204 => ((ascii_Words.f k x0).bind fun t207 => ((cringleref01_Texts.f k t204 t207).bind fun t210 => (if t210 = true then ((ascii_Same.f t197 x0).bind fun t211 => (if t211 = true then ((cringlelaw01_alive.f k).bind fun t212 => (some t212)) else (some false))) else (some false))))) else (some false))) else (some false))) else (some false))) else (some false))))))
def cringlelaw01_AsciiTwice.f (k : Nat) (a0 : ByteArray) : Option (Bool) := (cringlelaw01_long.f a0).bind fun t187 => (if t187 = true then ((cringlelaw01_alive.f k).bind fun t188 => (some t188)) else ((ascii_Words.f k a0).bind fun t189 => (cringlelaw01_AsciiTwice.l0 k a0 t189 (t189.length : Int) 0)))
theorem cringlelaw01_AsciiTwice.mono_l : ∀ k, (∀ y0 y1 y2 y3, LeO (cringlelaw01_AsciiTwice.l0 k y0 y1 y2 y3) (cringlelaw01_AsciiTwice.l0 (k + 1) y0 y1 y2 y3))
  | 0 => fun _ _ _ _ r h => by simp [cringlelaw01_AsciiTwice.l0] at h
  | k + 1 => by
    have ih0 := cringlelaw01_AsciiTwice.mono_l k
    · intro y0 y1 y2 y3
      unfold cringlelaw01_AsciiTwice.l0
      repeat' first
      | (with_reducible exact ih0 _ _ _ _)
      | (with_reducible exact ascii_Squeeze.mono _ _)
      | (with_reducible exact ascii_Words.mono _ _)
      | (with_reducible exact cringlelaw01_alive.mono _)
      | (with_reducible exact cringleref01_Texts.mono _ _ _)
      | (with_reducible exact LeO.refl _)
      | (with_reducible exact LeO.none _)
      | (with_reducible refine LeO.ite ?_ ?_)
      | (with_reducible refine LeO.bind ?_ (fun _ => ?_))
      | exact ih0 _ _ _ _
      | exact ascii_Squeeze.mono _ _
      | exact ascii_Words.mono _ _
      | exact cringlelaw01_alive.mono _
      | exact cringleref01_Texts.mono _ _ _
      | exact LeO.none _
      | refine LeO.ite ?_ ?_
      | refine LeO.bind ?_ (fun _ => ?_)
theorem cringlelaw01_AsciiTwice.mono : ∀ a0 k, LeO (cringlelaw01_AsciiTwice.f k a0) (cringlelaw01_AsciiTwice.f (k + 1) a0) := by
  intro a0 k
  have ih0 := cringlelaw01_AsciiTwice.mono_l k
  unfold cringlelaw01_AsciiTwice.f
  repeat' first
      | (with_reducible exact ih0 _ _ _ _)
      | (with_reducible exact ascii_Squeeze.mono _ _)
      | (with_reducible exact ascii_Words.mono _ _)
      | (with_reducible exact cringlelaw01_alive.mono _)
      | (with_reducible exact cringleref01_Texts.mono _ _ _)
      | (with_reducible exact LeO.refl _)
      | (with_reducible exact LeO.none _)
      | (with_reducible refine LeO.ite ?_ ?_)
      | (with_reducible refine LeO.bind ?_ (fun _ => ?_))
      | exact ih0 _ _ _ _
      | exact ascii_Squeeze.mono _ _
      | exact ascii_Words.mono _ _
      | exact cringlelaw01_alive.mono _
      | exact cringleref01_Texts.mono _ _ _
      | exact LeO.none _
      | refine LeO.ite ?_ ?_
      | refine LeO.bind ?_ (fun _ => ?_)
set_option maxHeartbeats 8000000 in
set_option maxRecDepth 100000 in
theorem cringlelaw01_AsciiTwice.calls (k : Nat) (a0 : ByteArray) (r : Bool) (w : World) (h : cringlelaw01_AsciiTwice.f k a0 = some r) (htrue : Aside0 (r = true)) :
    Calls Tryd.prog 4 #[.string a0] w fun e w' => e = .returned (.bool r) ∧ Below w.heap.size w w' := by
  have HB := Aside0.mk (Below.refl w.heap.size w)
  have H : ((cringlelaw01_long.f a0).bind fun t187 => (if t187 = true then ((cringlelaw01_alive.f k).bind fun t188 => (some t188)) else ((ascii_Words.f k a0).bind fun t189 => (cringlelaw01_AsciiTwice.l0 k a0 t189 (t189.length : Int) 0)))) = some r := h
  clear h
  replace H := Option.bind_eq_some_iff.mp H
  obtain ⟨t187, A20, H⟩ := H
  replace H : (if t187 = true then ((cringlelaw01_alive.f k).bind fun t188 => (some t188)) else ((ascii_Words.f k a0).bind fun t189 => (cringlelaw01_AsciiTwice.l0 k a0 t189 (t189.length : Int) 0))) = some r := H
  have A2 := Aside0.mk A20
  clear A20
  by_cases c3 : t187 = true
  · subst c3
    have H1 : ((cringlelaw01_alive.f k).bind fun t188 => (some t188)) = some r := by rw [if_pos rfl] at H; exact H
    clear H
    have H := H1
    clear H1
    replace H := Option.bind_eq_some_iff.mp H
    obtain ⟨t188, A40, H⟩ := H
    replace H : (some t188) = some r := H
    have A4 := Aside0.mk A40
    clear A40
    obtain rfl := Option.some.inj H
    go_enter Tryd.func4, Tryd.ntmps4
    go_wp2_with (first | ((with_reducible refine gate_callee (f := 5) rfl ?_); refine goesL_ (some 9) rfl rfl Tryd.func5 (by kernel_rfl) rfl #[.string a0] rfl (by (try simp only [List.map_toArray, List.map_cons, List.map_nil]); first | done | rfl | (simp only [List.length_drop, List.length_take]; rfl)) ?_; (with_reducible refine (cringlelaw01_long.calls a0 true _ A2.out).mono ?_); rintro e w' ⟨rfl, ⟨nd, rfl⟩⟩; refine ⟨_, rfl, ?_⟩) | ((with_reducible refine gate_callee (f := 6) rfl ?_); refine goesL_ (some 10) rfl rfl Tryd.func6 (by kernel_rfl) rfl #[] rfl (by (try simp only [List.map_toArray, List.map_cons, List.map_nil]); first | done | rfl | (simp only [List.length_drop, List.length_take]; rfl)) ?_; (with_reducible refine (cringlelaw01_alive.calls k  t188 _ A4.out).mono ?_); rintro e w5 ⟨rfl, hb⟩; refine ⟨_, rfl, ?_⟩; have n0_ := Aside0.mk (below_step (by repeat (first | (with_reducible first | exact HB.out | apply below_alloc | apply pw_below_drewN | apply below_drew1) | exact HB.out)) hb); clear HB; have HB := n0_; clear n0_; (try clear hb); (try clear hb2); (try clear hk); (try clear hi)))
    go_ret
    exact ⟨by first | rfl | (simp [errW_none, errW_some] <;> rfl) | (simp [*, errW_none, errW_some] <;> rfl), by repeat (first | (with_reducible first | exact HB.out | apply below_alloc | apply pw_below_drewN | apply below_drew1) | exact HB.out)⟩
  · replace c3 := Bool.eq_false_iff.mpr c3
    subst c3
    have H1 : ((ascii_Words.f k a0).bind fun t189 => (cringlelaw01_AsciiTwice.l0 k a0 t189 (t189.length : Int) 0)) = some r := by rw [if_neg (show ¬ (false = true) by decide)] at H; exact H
    clear H
    have H := H1
    clear H1
    replace H := Option.bind_eq_some_iff.mp H
    obtain ⟨t189, A60, H⟩ := H
    replace H : (cringlelaw01_AsciiTwice.l0 k a0 t189 (t189.length : Int) 0) = some r := H
    have A6 := Aside0.mk A60
    clear A60
    have H' := Aside0.mk H
    clear H
    go_enter Tryd.func4, Tryd.ntmps4
    go_wp2_with (first | ((with_reducible refine gate_callee (f := 5) rfl ?_); refine goesL_ (some 9) rfl rfl Tryd.func5 (by kernel_rfl) rfl #[.string a0] rfl (by (try simp only [List.map_toArray, List.map_cons, List.map_nil]); first | done | rfl | (simp only [List.length_drop, List.length_take]; rfl)) ?_; (with_reducible refine (cringlelaw01_long.calls a0 false _ A2.out).mono ?_); rintro e w' ⟨rfl, ⟨nd, rfl⟩⟩; refine ⟨_, rfl, ?_⟩) | ((with_reducible refine gate_callee (f := 13) rfl ?_); refine goesL_ (some 12) rfl rfl Tryd.func13 (by kernel_rfl) rfl #[.string a0] rfl (by (try simp only [List.map_toArray, List.map_cons, List.map_nil]); first | done | rfl | (simp only [List.length_drop, List.length_take]; rfl)) ?_; (with_reducible refine (ascii_Words.calls k a0 t189 _ A6.out).mono ?_); rintro e w7 ⟨v190, rfl, ho0, hb⟩; refine ⟨_, rfl, ?_⟩; have n0_ := Aside0.mk (Kd.R_lower ho0 (below_size (by repeat (first | (with_reducible first | exact HB.out | apply below_alloc | apply pw_below_drewN | apply below_drew1) | exact HB.out)))); have n1_ := Aside0.mk (below_step (by repeat (first | (with_reducible first | exact HB.out | apply below_alloc | apply pw_below_drewN | apply below_drew1) | exact HB.out)) hb); clear HB; have HO191 := n0_; have HB := n1_; clear n0_ n1_; (try clear hb); (try clear hb2); (try clear hk); (try clear hi); (try clear ho0); obtain ⟨Ao8, co8, eo8⟩ := Kd.R_slice HO191.out; subst eo8))
    go_loopg [14] k (fun kq v14 w' => ∃ (x14_1 : Int), v14 = .int .i64 x14_1 ∧ Aside0 (cringlelaw01_AsciiTwice.l0 kq a0 t189 (t189.length : Int) x14_1 = some r) ∧ Aside0 (kq ≤ k) ∧ Aside0 (Kd.R Kd.string 9 w' w.heap.size (fun _ => True) (.slice Ao8 t189.length co8) t189) ∧ Aside0 (Below w.heap.size w w'))
    case atStart => exact ⟨(0), (by first | rfl | (simp; done) | (simp [*]; done)), H', ⟨Nat.le_refl _⟩, ⟨by (with_reducible repeat (first | apply Kd.R_alloc | apply Kd.R_drewN | apply Kd.R_drew)); exact HO191.out⟩, ⟨by repeat (first | (with_reducible first | exact HB.out | apply below_alloc | apply pw_below_drewN | apply below_drew1) | exact HB.out)⟩⟩
    case round =>
      clear H'
      try clear c1
      try clear p2
      try clear c3
      try clear c4
      try clear c5
      try clear c6
      obtain ⟨x14_1, rfl, HA, HK1, HO_12, HB⟩ := hrel
      cases gk with
      | zero => exact absurd HA.out (by simp [cringlelaw01_AsciiTwice.l0])
      | succ k1 =>
        have H := HA.out
        clear HA
        simp only [cringlelaw01_AsciiTwice.l0] at H
        by_cases c9 : x14_1 < (t189.length : Int)
        · rw [if_pos c9] at H
          have c9b0 : decide (x14_1 < (t189.length : Int)) = true := decide_eq_true c9
          clear c9
          by_cases c10 : 0 ≤ x14_1
          · rw [if_pos c10] at H
            have c10b0 : decide (0 ≤ x14_1) = true := decide_eq_true c10
            clear c10
            by_cases c11 : x14_1 < (t189.length : Int)
            · rw [if_pos c11] at H
              have c11b0 : decide (x14_1 < (t189.length : Int)) = true := decide_eq_true c11
              clear c11
              by_cases c12 : (rdOf ByteArray.empty t189 x14_1).toList = ([] : List UInt8)
              · rw [if_pos c12] at H
                have c12b0 : ((rdOf ByteArray.empty t189 x14_1).toList == ([] : List UInt8)) = true := beq_iff_eq.mpr c12
                have c12b1 : ((rdOf ByteArray.empty t189 x14_1).toList != ([] : List UInt8)) = false := bne_eq_false_iff_eq.mpr c12
                clear c12
                exact absurd (Option.some.inj H) (by rw [htrue.out]; decide)
              · rw [if_neg c12] at H
                have c12b0 : ((rdOf ByteArray.empty t189 x14_1).toList == ([] : List UInt8)) = false := beq_eq_false_iff_ne.mpr c12
                have c12b1 : ((rdOf ByteArray.empty t189 x14_1).toList != ([] : List UInt8)) = true := bne_iff_ne.mpr c12
                replace H := Option.bind_eq_some_iff.mp H
                obtain ⟨t193, A130, H⟩ := H
                replace H : (if (t193.length : Int) = 1 then ((ascii_Trim.f (rdOf ByteArray.empty t189 x14_1)).bind fun t196 => (if t196.toList = (rdOf ByteArray.empty t189 x14_1).toList then (cringlelaw01_AsciiTwice.l0 k1 a0 t189 (t189.length : Int) (wrap64 (x14_1 + 1))) else (some false))) else (some false)) = some r := H
                have A13 := Aside0.mk A130
                clear A130
                by_cases c14 : (t193.length : Int) = 1
                · rw [if_pos c14] at H
                  have c14b0 : ((t193.length : Int) == 1) = true := beq_iff_eq.mpr c14
                  have c14b1 : ((t193.length : Int) != 1) = false := bne_eq_false_iff_eq.mpr c14
                  clear c14
                  replace H := Option.bind_eq_some_iff.mp H
                  obtain ⟨t196, A150, H⟩ := H
                  replace H : (if t196.toList = (rdOf ByteArray.empty t189 x14_1).toList then (cringlelaw01_AsciiTwice.l0 k1 a0 t189 (t189.length : Int) (wrap64 (x14_1 + 1))) else (some false)) = some r := H
                  have A15 := Aside0.mk A150
                  clear A150
                  by_cases c16 : t196.toList = (rdOf ByteArray.empty t189 x14_1).toList
                  · rw [if_pos c16] at H
                    have c16b0 : (t196.toList == (rdOf ByteArray.empty t189 x14_1).toList) = true := beq_iff_eq.mpr c16
                    have c16b1 : (t196.toList != (rdOf ByteArray.empty t189 x14_1).toList) = false := bne_eq_false_iff_eq.mpr c16
                    clear c16
                    have H' := Aside0.mk H
                    clear H
                    have p192 : 0 ≤ (x14_1 : Int) := of_decide_eq_true (by first | (with_reducible assumption) | assumption)
                    have q192 : x14_1 < (t189.length : Int) := of_decide_eq_true (by first | (with_reducible assumption) | assumption)
                    obtain ⟨ad192, e192, hx192_0⟩ := Kd.at_string (Kd.R_reads' HO_12.out).2.2 x14_1 p192 q192
                    cases e192
                    replace p192 := eq_true p192
                    replace q192 := eq_true q192
                    go_wp2_with (first | (go_at_call 13; (with_reducible refine (ascii_Words.calls k1 (rdOf ByteArray.empty t189 x14_1) t193 _ A13.out).mono ?_); rintro e w17 ⟨v194, rfl, ho0, hb⟩; have n0_ := Aside0.mk (Kd.R_elder' (by (with_reducible repeat (first | apply Kd.R_alloc | apply Kd.R_drewN | apply Kd.R_drew)); exact HO_12.out) (Kd.R_base ho0) hb); have n1_ := Aside0.mk (Kd.R_lower (Kd.R_new' ho0 (Kd.R_lt (by (with_reducible repeat (first | apply Kd.R_alloc | apply Kd.R_drewN | apply Kd.R_drew)); exact HO_12.out))) (below_size (by repeat (first | (with_reducible first | exact HB.out | apply below_alloc | apply pw_below_drewN | apply below_drew1) | exact HB.out)))); have n2_ := Aside0.mk (below_step (by repeat (first | (with_reducible first | exact HB.out | apply below_alloc | apply pw_below_drewN | apply below_drew1) | exact HB.out)) hb); clear HO_12; clear HB; have HO_12 := n0_; have HO195 := n1_; have HB := n2_; clear n0_ n1_ n2_; (try clear hb); (try clear hb2); (try clear hk); (try clear hi); (try clear ho0); obtain ⟨Ao18, co18, eo18⟩ := Kd.R_slice HO195.out; subst eo18) | (go_at_call 10; (with_reducible refine (ascii_Trim.calls (rdOf ByteArray.empty t189 x14_1) t196 _ A15.out).mono ?_); rintro e w19 ⟨rfl, hb⟩; have n0_ := Aside0.mk (Kd.R_below (by (with_reducible repeat (first | apply Kd.R_alloc | apply Kd.R_drewN | apply Kd.R_drew)); exact HO_12.out) hb); have n1_ := Aside0.mk (Kd.R_below (by (with_reducible repeat (first | apply Kd.R_alloc | apply Kd.R_drewN | apply Kd.R_drew)); exact HO195.out) hb); have n2_ := Aside0.mk (below_step (by repeat (first | (with_reducible first | exact HB.out | apply below_alloc | apply pw_below_drewN | apply below_drew1) | exact HB.out)) hb); clear HO_12; clear HO195; clear HB; have HO_12 := n0_; have HO195 := n1_; have HB := n2_; clear n0_ n1_ n2_; (try clear hb); (try clear hb2); (try clear hk); (try clear hi)))
                    go_roundg k1
                    case measure => have := HK1.out; omega
                    case rel => exact ⟨(wrap64 (x14_1 + 1)), (by first | rfl | (simp; done) | (simp [*]; done)), H', ⟨by have := HK1.out; omega⟩, ⟨by (with_reducible repeat (first | apply Kd.R_alloc | apply Kd.R_drewN | apply Kd.R_drew)); exact Kd.R_mono HO_12.out (fun _ hk => trivial)⟩, ⟨by repeat (first | (with_reducible first | exact HB.out | apply below_alloc | apply pw_below_drewN | apply below_drew1) | exact HB.out)⟩⟩
                  · rw [if_neg c16] at H
                    have c16b0 : (t196.toList == (rdOf ByteArray.empty t189 x14_1).toList) = false := beq_eq_false_iff_ne.mpr c16
                    have c16b1 : (t196.toList != (rdOf ByteArray.empty t189 x14_1).toList) = true := bne_iff_ne.mpr c16
                    exact absurd (Option.some.inj H) (by rw [htrue.out]; decide)
                · rw [if_neg c14] at H
                  have c14b0 : ((t193.length : Int) == 1) = false := beq_eq_false_iff_ne.mpr c14
                  have c14b1 : ((t193.length : Int) != 1) = true := bne_iff_ne.mpr c14
                  exact absurd (Option.some.inj H) (by rw [htrue.out]; decide)
            · rw [if_neg c11] at H
              exact absurd H (by simp)
          · rw [if_neg c10] at H
            exact absurd H (by simp)
        · rw [if_neg c9] at H
          have c9b0 : decide (x14_1 < (t189.length : Int)) = false := decide_eq_false c9
          clear c9
          replace H := Option.bind_eq_some_iff.mp H
          obtain ⟨t197, A200, H⟩ := H
          replace H : ((ascii_Trim.f a0).bind fun t198 => ((ascii_Squeeze.f k1 a0).bind fun t199 => ((ascii_Lower.f t197).bind fun t200 => (if t200.toList = t197.toList then ((ascii_Trim.f t198).bind fun t201 => (if t201.toList = t198.toList then ((ascii_Squeeze.f k1 t199).bind fun t202 => (if t202.toList = t199.toList then ((ascii_Trim.f t199).bind fun t203 => (if t203.toList = t199.toList then ((ascii_Words.f k1 t199).bind fun t204 => ((ascii_Words.f k1 a0).bind fun t207 => ((cringleref01_Texts.f k1 t204 t207).bind fun t210 => (if t210 = true then ((ascii_Same.f t197 a0).bind fun t211 => (if t211 = true then ((cringlelaw01_alive.f k1).bind fun t212 => (some t212)) else (some false))) else (some false))))) else (some false))) else (some false))) else (some false))) else (some false))))) = some r := H
          have A20 := Aside0.mk A200
          clear A200
          replace H := Option.bind_eq_some_iff.mp H
          obtain ⟨t198, A210, H⟩ := H
          replace H : ((ascii_Squeeze.f k1 a0).bind fun t199 => ((ascii_Lower.f t197).bind fun t200 => (if t200.toList = t197.toList then ((ascii_Trim.f t198).bind fun t201 => (if t201.toList = t198.toList then ((ascii_Squeeze.f k1 t199).bind fun t202 => (if t202.toList = t199.toList then ((ascii_Trim.f t199).bind fun t203 => (if t203.toList = t199.toList then ((ascii_Words.f k1 t199).bind fun t204 => ((ascii_Words.f k1 a0).bind fun t207 => ((cringleref01_Texts.f k1 t204 t207).bind fun t210 => (if t210 = true then ((ascii_Same.f t197 a0).bind fun t211 => (if t211 = true then ((cringlelaw01_alive.f k1).bind fun t212 => (some t212)) else (some false))) else (some false))))) else (some false))) else (some false))) else (some false))) else (some false)))) = some r := H
          have A21 := Aside0.mk A210
          clear A210
          replace H := Option.bind_eq_some_iff.mp H
          obtain ⟨t199, A220, H⟩ := H
          replace H : ((ascii_Lower.f t197).bind fun t200 => (if t200.toList = t197.toList then ((ascii_Trim.f t198).bind fun t201 => (if t201.toList = t198.toList then ((ascii_Squeeze.f k1 t199).bind fun t202 => (if t202.toList = t199.toList then ((ascii_Trim.f t199).bind fun t203 => (if t203.toList = t199.toList then ((ascii_Words.f k1 t199).bind fun t204 => ((ascii_Words.f k1 a0).bind fun t207 => ((cringleref01_Texts.f k1 t204 t207).bind fun t210 => (if t210 = true then ((ascii_Same.f t197 a0).bind fun t211 => (if t211 = true then ((cringlelaw01_alive.f k1).bind fun t212 => (some t212)) else (some false))) else (some false))))) else (some false))) else (some false))) else (some false))) else (some false))) = some r := H
          have A22 := Aside0.mk A220
          clear A220
          replace H := Option.bind_eq_some_iff.mp H
          obtain ⟨t200, A230, H⟩ := H
          replace H : (if t200.toList = t197.toList then ((ascii_Trim.f t198).bind fun t201 => (if t201.toList = t198.toList then ((ascii_Squeeze.f k1 t199).bind fun t202 => (if t202.toList = t199.toList then ((ascii_Trim.f t199).bind fun t203 => (if t203.toList = t199.toList then ((ascii_Words.f k1 t199).bind fun t204 => ((ascii_Words.f k1 a0).bind fun t207 => ((cringleref01_Texts.f k1 t204 t207).bind fun t210 => (if t210 = true then ((ascii_Same.f t197 a0).bind fun t211 => (if t211 = true then ((cringlelaw01_alive.f k1).bind fun t212 => (some t212)) else (some false))) else (some false))))) else (some false))) else (some false))) else (some false))) else (some false)) = some r := H
          have A23 := Aside0.mk A230
          clear A230
          by_cases c24 : t200.toList = t197.toList
          · rw [if_pos c24] at H
            have c24b0 : (t200.toList == t197.toList) = true := beq_iff_eq.mpr c24
            have c24b1 : (t200.toList != t197.toList) = false := bne_eq_false_iff_eq.mpr c24
            clear c24
            replace H := Option.bind_eq_some_iff.mp H
            obtain ⟨t201, A250, H⟩ := H
            replace H : (if t201.toList = t198.toList then ((ascii_Squeeze.f k1 t199).bind fun t202 => (if t202.toList = t199.toList then ((ascii_Trim.f t199).bind fun t203 => (if t203.toList = t199.toList then ((ascii_Words.f k1 t199).bind fun t204 => ((ascii_Words.f k1 a0).bind fun t207 => ((cringleref01_Texts.f k1 t204 t207).bind fun t210 => (if t210 = true then ((ascii_Same.f t197 a0).bind fun t211 => (if t211 = true then ((cringlelaw01_alive.f k1).bind fun t212 => (some t212)) else (some false))) else (some false))))) else (some false))) else (some false))) else (some false)) = some r := H
            have A25 := Aside0.mk A250
            clear A250
            by_cases c26 : t201.toList = t198.toList
            · rw [if_pos c26] at H
              have c26b0 : (t201.toList == t198.toList) = true := beq_iff_eq.mpr c26
              have c26b1 : (t201.toList != t198.toList) = false := bne_eq_false_iff_eq.mpr c26
              clear c26
              replace H := Option.bind_eq_some_iff.mp H
              obtain ⟨t202, A270, H⟩ := H
              replace H : (if t202.toList = t199.toList then ((ascii_Trim.f t199).bind fun t203 => (if t203.toList = t199.toList then ((ascii_Words.f k1 t199).bind fun t204 => ((ascii_Words.f k1 a0).bind fun t207 => ((cringleref01_Texts.f k1 t204 t207).bind fun t210 => (if t210 = true then ((ascii_Same.f t197 a0).bind fun t211 => (if t211 = true then ((cringlelaw01_alive.f k1).bind fun t212 => (some t212)) else (some false))) else (some false))))) else (some false))) else (some false)) = some r := H
              have A27 := Aside0.mk A270
              clear A270
              by_cases c28 : t202.toList = t199.toList
              · rw [if_pos c28] at H
                have c28b0 : (t202.toList == t199.toList) = true := beq_iff_eq.mpr c28
                have c28b1 : (t202.toList != t199.toList) = false := bne_eq_false_iff_eq.mpr c28
                clear c28
                replace H := Option.bind_eq_some_iff.mp H
                obtain ⟨t203, A290, H⟩ := H
                replace H : (if t203.toList = t199.toList then ((ascii_Words.f k1 t199).bind fun t204 => ((ascii_Words.f k1 a0).bind fun t207 => ((cringleref01_Texts.f k1 t204 t207).bind fun t210 => (if t210 = true then ((ascii_Same.f t197 a0).bind fun t211 => (if t211 = true then ((cringlelaw01_alive.f k1).bind fun t212 => (some t212)) else (some false))) else (some false))))) else (some false)) = some r := H
                have A29 := Aside0.mk A290
                clear A290
                by_cases c30 : t203.toList = t199.toList
                · rw [if_pos c30] at H
                  have c30b0 : (t203.toList == t199.toList) = true := beq_iff_eq.mpr c30
                  have c30b1 : (t203.toList != t199.toList) = false := bne_eq_false_iff_eq.mpr c30
                  clear c30
                  replace H := Option.bind_eq_some_iff.mp H
                  obtain ⟨t204, A310, H⟩ := H
                  replace H : ((ascii_Words.f k1 a0).bind fun t207 => ((cringleref01_Texts.f k1 t204 t207).bind fun t210 => (if t210 = true then ((ascii_Same.f t197 a0).bind fun t211 => (if t211 = true then ((cringlelaw01_alive.f k1).bind fun t212 => (some t212)) else (some false))) else (some false)))) = some r := H
                  have A31 := Aside0.mk A310
                  clear A310
                  replace H := Option.bind_eq_some_iff.mp H
                  obtain ⟨t207, A320, H⟩ := H
                  replace H : ((cringleref01_Texts.f k1 t204 t207).bind fun t210 => (if t210 = true then ((ascii_Same.f t197 a0).bind fun t211 => (if t211 = true then ((cringlelaw01_alive.f k1).bind fun t212 => (some t212)) else (some false))) else (some false))) = some r := H
                  have A32 := Aside0.mk A320
                  clear A320
                  replace H := Option.bind_eq_some_iff.mp H
                  obtain ⟨t210, A330, H⟩ := H
                  replace H : (if t210 = true then ((ascii_Same.f t197 a0).bind fun t211 => (if t211 = true then ((cringlelaw01_alive.f k1).bind fun t212 => (some t212)) else (some false))) else (some false)) = some r := H
                  have A33 := Aside0.mk A330
                  clear A330
                  by_cases c34 : t210 = true
                  · subst c34
                    have H1 : ((ascii_Same.f t197 a0).bind fun t211 => (if t211 = true then ((cringlelaw01_alive.f k1).bind fun t212 => (some t212)) else (some false))) = some r := by rw [if_pos rfl] at H; exact H
                    clear H
                    have H := H1
                    clear H1
                    replace H := Option.bind_eq_some_iff.mp H
                    obtain ⟨t211, A350, H⟩ := H
                    replace H : (if t211 = true then ((cringlelaw01_alive.f k1).bind fun t212 => (some t212)) else (some false)) = some r := H
                    have A35 := Aside0.mk A350
                    clear A350
                    by_cases c36 : t211 = true
                    · subst c36
                      have H1 : ((cringlelaw01_alive.f k1).bind fun t212 => (some t212)) = some r := by rw [if_pos rfl] at H; exact H
                      clear H
                      have H := H1
                      clear H1
                      replace H := Option.bind_eq_some_iff.mp H
                      obtain ⟨t212, A370, H⟩ := H
                      replace H : (some t212) = some r := H
                      have A37 := Aside0.mk A370
                      clear A370
                      obtain rfl := Option.some.inj H
                      go_wp2_with (first | ((with_reducible refine gate_callee (f := 7) rfl ?_); refine goesL_ (some 34) rfl rfl Tryd.func7 (by kernel_rfl) rfl #[.string a0] rfl (by (try simp only [List.map_toArray, List.map_cons, List.map_nil]); first | done | rfl | (simp only [List.length_drop, List.length_take]; rfl)) ?_; (with_reducible refine (ascii_Lower.calls a0 t197 _ A20.out).mono ?_); rintro e w38 ⟨rfl, hb⟩; refine ⟨_, rfl, ?_⟩; have n0_ := Aside0.mk (Kd.R_below (by (with_reducible repeat (first | apply Kd.R_alloc | apply Kd.R_drewN | apply Kd.R_drew)); exact HO_12.out) hb); have n1_ := Aside0.mk (below_step (by repeat (first | (with_reducible first | exact HB.out | apply below_alloc | apply pw_below_drewN | apply below_drew1) | exact HB.out)) hb); clear HO_12; clear HB; have HO_12 := n0_; have HB := n1_; clear n0_ n1_; (try clear hb); (try clear hb2); (try clear hk); (try clear hi)) | ((with_reducible refine gate_callee (f := 10) rfl ?_); refine goesL_ (some 36) rfl rfl Tryd.func10 (by kernel_rfl) rfl #[.string a0] rfl (by (try simp only [List.map_toArray, List.map_cons, List.map_nil]); first | done | rfl | (simp only [List.length_drop, List.length_take]; rfl)) ?_; (with_reducible refine (ascii_Trim.calls a0 t198 _ A21.out).mono ?_); rintro e w39 ⟨rfl, hb⟩; refine ⟨_, rfl, ?_⟩; have n0_ := Aside0.mk (Kd.R_below (by (with_reducible repeat (first | apply Kd.R_alloc | apply Kd.R_drewN | apply Kd.R_drew)); exact HO_12.out) hb); have n1_ := Aside0.mk (below_step (by repeat (first | (with_reducible first | exact HB.out | apply below_alloc | apply pw_below_drewN | apply below_drew1) | exact HB.out)) hb); clear HO_12; clear HB; have HO_12 := n0_; have HB := n1_; clear n0_ n1_; (try clear hb); (try clear hb2); (try clear hk); (try clear hi)) | ((with_reducible refine gate_callee (f := 15) rfl ?_); refine goesL_ (some 38) rfl rfl Tryd.func15 (by kernel_rfl) rfl #[.string a0] rfl (by (try simp only [List.map_toArray, List.map_cons, List.map_nil]); first | done | rfl | (simp only [List.length_drop, List.length_take]; rfl)) ?_; (with_reducible refine (ascii_Squeeze.calls k1 a0 t199 _ A22.out).mono ?_); rintro e w40 ⟨rfl, hb⟩; refine ⟨_, rfl, ?_⟩; have n0_ := Aside0.mk (Kd.R_below (by (with_reducible repeat (first | apply Kd.R_alloc | apply Kd.R_drewN | apply Kd.R_drew)); exact HO_12.out) hb); have n1_ := Aside0.mk (below_step (by repeat (first | (with_reducible first | exact HB.out | apply below_alloc | apply pw_below_drewN | apply below_drew1) | exact HB.out)) hb); clear HO_12; clear HB; have HO_12 := n0_; have HB := n1_; clear n0_ n1_; (try clear hb); (try clear hb2); (try clear hk); (try clear hi)) | ((with_reducible refine gate_callee (f := 7) rfl ?_); refine goesL_ (some 40) rfl rfl Tryd.func7 (by kernel_rfl) rfl #[.string t197] rfl (by (try simp only [List.map_toArray, List.map_cons, List.map_nil]); first | done | rfl | (simp only [List.length_drop, List.length_take]; rfl)) ?_; (with_reducible refine (ascii_Lower.calls t197 t200 _ A23.out).mono ?_); rintro e w41 ⟨rfl, hb⟩; refine ⟨_, rfl, ?_⟩; have n0_ := Aside0.mk (Kd.R_below (by (with_reducible repeat (first | apply Kd.R_alloc | apply Kd.R_drewN | apply Kd.R_drew)); exact HO_12.out) hb); have n1_ := Aside0.mk (below_step (by repeat (first | (with_reducible first | exact HB.out | apply below_alloc | apply pw_below_drewN | apply below_drew1) | exact HB.out)) hb); clear HO_12; clear HB; have HO_12 := n0_; have HB := n1_; clear n0_ n1_; (try clear hb); (try clear hb2); (try clear hk); (try clear hi)) | (go_at_call 10; (with_reducible refine (ascii_Trim.calls t198 t201 _ A25.out).mono ?_); rintro e w42 ⟨rfl, hb⟩; have n0_ := Aside0.mk (Kd.R_below (by (with_reducible repeat (first | apply Kd.R_alloc | apply Kd.R_drewN | apply Kd.R_drew)); exact HO_12.out) hb); have n1_ := Aside0.mk (below_step (by repeat (first | (with_reducible first | exact HB.out | apply below_alloc | apply pw_below_drewN | apply below_drew1) | exact HB.out)) hb); clear HO_12; clear HB; have HO_12 := n0_; have HB := n1_; clear n0_ n1_; (try clear hb); (try clear hb2); (try clear hk); (try clear hi)) | (go_at_call 15; (with_reducible refine (ascii_Squeeze.calls k1 t199 t202 _ A27.out).mono ?_); rintro e w43 ⟨rfl, hb⟩; have n0_ := Aside0.mk (Kd.R_below (by (with_reducible repeat (first | apply Kd.R_alloc | apply Kd.R_drewN | apply Kd.R_drew)); exact HO_12.out) hb); have n1_ := Aside0.mk (below_step (by repeat (first | (with_reducible first | exact HB.out | apply below_alloc | apply pw_below_drewN | apply below_drew1) | exact HB.out)) hb); clear HO_12; clear HB; have HO_12 := n0_; have HB := n1_; clear n0_ n1_; (try clear hb); (try clear hb2); (try clear hk); (try clear hi)) | (go_at_call 10; (with_reducible refine (ascii_Trim.calls t199 t203 _ A29.out).mono ?_); rintro e w44 ⟨rfl, hb⟩; have n0_ := Aside0.mk (Kd.R_below (by (with_reducible repeat (first | apply Kd.R_alloc | apply Kd.R_drewN | apply Kd.R_drew)); exact HO_12.out) hb); have n1_ := Aside0.mk (below_step (by repeat (first | (with_reducible first | exact HB.out | apply below_alloc | apply pw_below_drewN | apply below_drew1) | exact HB.out)) hb); clear HO_12; clear HB; have HO_12 := n0_; have HB := n1_; clear n0_ n1_; (try clear hb); (try clear hb2); (try clear hk); (try clear hi)) | (go_at_call 13; (with_reducible refine (ascii_Words.calls k1 t199 t204 _ A31.out).mono ?_); rintro e w45 ⟨v205, rfl, ho0, hb⟩; have n0_ := Aside0.mk (Kd.R_elder' (by (with_reducible repeat (first | apply Kd.R_alloc | apply Kd.R_drewN | apply Kd.R_drew)); exact HO_12.out) (Kd.R_base ho0) hb); have n1_ := Aside0.mk (Kd.R_lower (Kd.R_new' ho0 (Kd.R_lt (by (with_reducible repeat (first | apply Kd.R_alloc | apply Kd.R_drewN | apply Kd.R_drew)); exact HO_12.out))) (below_size (by repeat (first | (with_reducible first | exact HB.out | apply below_alloc | apply pw_below_drewN | apply below_drew1) | exact HB.out)))); have n2_ := Aside0.mk (below_step (by repeat (first | (with_reducible first | exact HB.out | apply below_alloc | apply pw_below_drewN | apply below_drew1) | exact HB.out)) hb); clear HO_12; clear HB; have HO_12 := n0_; have HO206 := n1_; have HB := n2_; clear n0_ n1_ n2_; (try clear hb); (try clear hb2); (try clear hk); (try clear hi); (try clear ho0)) | (go_at_call 13; (with_reducible refine (ascii_Words.calls k1 a0 t207 _ A32.out).mono ?_); rintro e w46 ⟨v208, rfl, ho0, hb⟩; have n0_ := Aside0.mk (Kd.R_elder' (by (with_reducible repeat (first | apply Kd.R_alloc | apply Kd.R_drewN | apply Kd.R_drew)); exact HO_12.out) (Kd.R_base ho0) hb); have n1_ := Aside0.mk (Kd.R_elder' (by (with_reducible repeat (first | apply Kd.R_alloc | apply Kd.R_drewN | apply Kd.R_drew)); exact HO206.out) (Kd.R_base ho0) hb); have n2_ := Aside0.mk (Kd.R_lower (Kd.R_new' (Kd.R_new' ho0 (Kd.R_lt (by (with_reducible repeat (first | apply Kd.R_alloc | apply Kd.R_drewN | apply Kd.R_drew)); exact HO_12.out))) (Kd.R_lt (by (with_reducible repeat (first | apply Kd.R_alloc | apply Kd.R_drewN | apply Kd.R_drew)); exact HO206.out))) (below_size (by repeat (first | (with_reducible first | exact HB.out | apply below_alloc | apply pw_below_drewN | apply below_drew1) | exact HB.out)))); have n3_ := Aside0.mk (below_step (by repeat (first | (with_reducible first | exact HB.out | apply below_alloc | apply pw_below_drewN | apply below_drew1) | exact HB.out)) hb); clear HO_12; clear HO206; clear HB; have HO_12 := n0_; have HO206 := n1_; have HO209 := n2_; have HB := n3_; clear n0_ n1_ n2_ n3_; (try clear hb); (try clear hb2); (try clear hk); (try clear hi); (try clear ho0); obtain ⟨Ao47, co47, eo47⟩ := Kd.R_slice HO206.out; subst eo47; obtain ⟨Ao48, co48, eo48⟩ := Kd.R_slice HO209.out; subst eo48) | (go_at_call 12; (with_reducible refine (cringleref01_Texts.calls k1 _ _ t204 _ _ t207 true _ ?side1 ?side2 ?side3 ?side4 A33.out).mono ?_); (case side1 => repeat (first | exact (Kd.R_reads' HO206.out).2.2 | (with_reducible refine Kd.C_alloc ?_ _) | (with_reducible refine Kd.C_drewN ?_ _) | (with_reducible refine Kd.C_drew ?_))); (case side2 => exact (Kd.R_reads' HO206.out).2.1); (case side3 => repeat (first | exact (Kd.R_reads' HO209.out).2.2 | (with_reducible refine Kd.C_alloc ?_ _) | (with_reducible refine Kd.C_drewN ?_ _) | (with_reducible refine Kd.C_drew ?_))); (case side4 => exact (Kd.R_reads' HO209.out).2.1); rintro e w' ⟨rfl, ⟨nd, rfl⟩⟩) | (go_at_call 9; (with_reducible refine (ascii_Same.calls t197 a0 true _ A35.out).mono ?_); rintro e w49 ⟨rfl, hb⟩; have n0_ := Aside0.mk (Kd.R_below (by (with_reducible repeat (first | apply Kd.R_alloc | apply Kd.R_drewN | apply Kd.R_drew)); exact HO_12.out) hb); have n1_ := Aside0.mk (Kd.R_below (by (with_reducible repeat (first | apply Kd.R_alloc | apply Kd.R_drewN | apply Kd.R_drew)); exact HO206.out) hb); have n2_ := Aside0.mk (Kd.R_below (by (with_reducible repeat (first | apply Kd.R_alloc | apply Kd.R_drewN | apply Kd.R_drew)); exact HO209.out) hb); have n3_ := Aside0.mk (below_step (by repeat (first | (with_reducible first | exact HB.out | apply below_alloc | apply pw_below_drewN | apply below_drew1) | exact HB.out)) hb); clear HO_12; clear HO206; clear HO209; clear HB; have HO_12 := n0_; have HO206 := n1_; have HO209 := n2_; have HB := n3_; clear n0_ n1_ n2_ n3_; (try clear hb); (try clear hb2); (try clear hk); (try clear hi)) | (go_at_call 6; (with_reducible refine (cringlelaw01_alive.calls k1  t212 _ A37.out).mono ?_); rintro e w50 ⟨rfl, hb⟩; have n0_ := Aside0.mk (Kd.R_below (by (with_reducible repeat (first | apply Kd.R_alloc | apply Kd.R_drewN | apply Kd.R_drew)); exact HO_12.out) hb); have n1_ := Aside0.mk (Kd.R_below (by (with_reducible repeat (first | apply Kd.R_alloc | apply Kd.R_drewN | apply Kd.R_drew)); exact HO206.out) hb); have n2_ := Aside0.mk (Kd.R_below (by (with_reducible repeat (first | apply Kd.R_alloc | apply Kd.R_drewN | apply Kd.R_drew)); exact HO209.out) hb); have n3_ := Aside0.mk (below_step (by repeat (first | (with_reducible first | exact HB.out | apply below_alloc | apply pw_below_drewN | apply below_drew1) | exact HB.out)) hb); clear HO_12; clear HO206; clear HO209; clear HB; have HO_12 := n0_; have HO206 := n1_; have HO209 := n2_; have HB := n3_; clear n0_ n1_ n2_ n3_; (try clear hb); (try clear hb2); (try clear hk); (try clear hi)))
                      go_ret
                      exact ⟨by first | rfl | (simp [errW_none, errW_some] <;> rfl) | (simp [*, errW_none, errW_some] <;> rfl), by repeat (first | (with_reducible first | exact HB.out | apply below_alloc | apply pw_below_drewN | apply below_drew1) | exact HB.out)⟩
                    · replace c36 := Bool.eq_false_iff.mpr c36
                      subst c36
                      have H1 : (some false) = some r := by rw [if_neg (show ¬ (false = true) by decide)] at H; exact H
                      clear H
                      have H := H1
                      clear H1
                      exact absurd (Option.some.inj H) (by rw [htrue.out]; decide)
                  · replace c34 := Bool.eq_false_iff.mpr c34
                    subst c34
                    have H1 : (some false) = some r := by rw [if_neg (show ¬ (false = true) by decide)] at H; exact H
                    clear H
                    have H := H1
                    clear H1
                    exact absurd (Option.some.inj H) (by rw [htrue.out]; decide)
                · rw [if_neg c30] at H
                  have c30b0 : (t203.toList == t199.toList) = false := beq_eq_false_iff_ne.mpr c30
                  have c30b1 : (t203.toList != t199.toList) = true := bne_iff_ne.mpr c30
                  exact absurd (Option.some.inj H) (by rw [htrue.out]; decide)
              · rw [if_neg c28] at H
                have c28b0 : (t202.toList == t199.toList) = false := beq_eq_false_iff_ne.mpr c28
                have c28b1 : (t202.toList != t199.toList) = true := bne_iff_ne.mpr c28
                exact absurd (Option.some.inj H) (by rw [htrue.out]; decide)
            · rw [if_neg c26] at H
              have c26b0 : (t201.toList == t198.toList) = false := beq_eq_false_iff_ne.mpr c26
              have c26b1 : (t201.toList != t198.toList) = true := bne_iff_ne.mpr c26
              exact absurd (Option.some.inj H) (by rw [htrue.out]; decide)
          · rw [if_neg c24] at H
            have c24b0 : (t200.toList == t197.toList) = false := beq_eq_false_iff_ne.mpr c24
            have c24b1 : (t200.toList != t197.toList) = true := bne_iff_ne.mpr c24
            exact absurd (Option.some.inj H) (by rw [htrue.out]; decide)

end Go.Proofs.YtgbpmhkaobjnpaaDoor.Q
