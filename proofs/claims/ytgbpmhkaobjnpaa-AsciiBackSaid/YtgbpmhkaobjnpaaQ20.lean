-- printed by a program of the session's own; Lean checks it
import Derived.Test.YtgbpmhkaobjnpaaQ0
import Derived.Test.YtgbpmhkaobjnpaaQ4
import Derived.Test.YtgbpmhkaobjnpaaQ10
import Derived.Test.YtgbpmhkaobjnpaaQ11
import Derived.Test.YtgbpmhkaobjnpaaQ14
import Derived.Test.YtgbpmhkaobjnpaaQ15
namespace Go.Proofs.Ytgbpmhkaobjnpaa.Q
open Go.RowKit Go.Proofs.YtgbpmhkaobjnpaaW.PrintWords Go.Proofs.YtgbpmhkaobjnpaaW.PrintLast Go.Proofs.YtgbpmhkaobjnpaaW.PrintMore
attribute [local go_sem] max2_int min2_int max_two min_two max_three min_three max_four min_four   -- for this text's walks alone
set_option linter.unusedVariables false
set_option linter.unusedSimpArgs false

/-! ### cringlelaw01_AsciiBack: function 6 -/
mutual
def cringlelaw01_AsciiBack.j0 : Nat → ByteArray → Option (Bool)
  | 0, _ => none
  | k + 1, x1 => (ascii_Number.f k x1 9223372036854775807).bind fun bt183 => (if bt183.2 = 0 then (cringlelaw01_AsciiBack.l0 k x1 bt183.1) else (if bt183.1 = 0 then ((cringlelaw01_alive.f k).bind fun t185 => (some t185)) else (some false)))
def cringlelaw01_AsciiBack.l0 : Nat → ByteArray → Int → Option (Bool)
  | 0, _, _ => none
  | k + 1, x1, x9 => if (x1.size : Int) > 1 then (if 0 < (x1.size : Int) then (if (bt x1 0) = 48 then (if 1 ≤ (x1.size : Int) then (cringlelaw01_AsciiBack.l0 k (x1.extract 1 x1.size) x9) else (none)) else ((ascii_Text.f k x9).bind fun t186 => (if t186.toList = x1.toList then ((cringlelaw01_alive.f k).bind fun t187 => (some t187)) else (some false)))) else (none)) else ((ascii_Text.f k x9).bind fun t188 => (if t188.toList = x1.toList then ((cringlelaw01_alive.f k).bind fun t189 => (some t189)) else (some false)))
end
def cringlelaw01_AsciiBack.f (k : Nat) (a0 : Int) (a1 : ByteArray) : Option (Bool) := (cringlelaw01_long.f a1).bind fun t175 => (if t175 = true then ((cringlelaw01_alive.f k).bind fun t176 => (some t176)) else (if a0 ≥ 0 then ((ascii_Text.f k a0).bind fun t177 => ((ascii_Number.f k t177 9223372036854775807).bind fun bt178 => ((ascii_Pad.f k a0 20).bind fun t180 => ((ascii_Number.f k t180 9223372036854775807).bind fun bt181 => (if bt178.1 = a0 then (if bt178.2 = 0 then (if bt181.1 = a0 then (if bt181.2 = 0 then (cringlelaw01_AsciiBack.j0 k a1) else (some false)) else (some false)) else (some false)) else (some false)))))) else (cringlelaw01_AsciiBack.j0 k a1)))
theorem cringlelaw01_AsciiBack.mono_l : ∀ k, (∀ y0, LeO (cringlelaw01_AsciiBack.j0 k y0) (cringlelaw01_AsciiBack.j0 (k + 1) y0)) ∧ (∀ y0 y1, LeO (cringlelaw01_AsciiBack.l0 k y0 y1) (cringlelaw01_AsciiBack.l0 (k + 1) y0 y1))
  | 0 => ⟨fun _ r h => by simp [cringlelaw01_AsciiBack.j0] at h, fun _ _ r h => by simp [cringlelaw01_AsciiBack.l0] at h⟩
  | k + 1 => by
    obtain ⟨ih0, ih1⟩ := cringlelaw01_AsciiBack.mono_l k
    refine ⟨?_, ?_⟩
    · intro y0
      unfold cringlelaw01_AsciiBack.j0
      repeat' first
      | (with_reducible exact ih0 _)
      | (with_reducible exact ih1 _ _)
      | (with_reducible exact ascii_Number.mono _ _ _)
      | (with_reducible exact ascii_Pad.mono _ _ _)
      | (with_reducible exact ascii_Text.mono _ _)
      | (with_reducible exact cringlelaw01_alive.mono _)
      | (with_reducible exact LeO.refl _)
      | (with_reducible exact LeO.none _)
      | (with_reducible refine LeO.ite ?_ ?_)
      | (with_reducible refine LeO.bind ?_ (fun _ => ?_))
      | exact ih0 _
      | exact ih1 _ _
      | exact ascii_Number.mono _ _ _
      | exact ascii_Pad.mono _ _ _
      | exact ascii_Text.mono _ _
      | exact cringlelaw01_alive.mono _
      | exact LeO.none _
      | refine LeO.ite ?_ ?_
      | refine LeO.bind ?_ (fun _ => ?_)
    · intro y0 y1
      unfold cringlelaw01_AsciiBack.l0
      repeat' first
      | (with_reducible exact ih0 _)
      | (with_reducible exact ih1 _ _)
      | (with_reducible exact ascii_Number.mono _ _ _)
      | (with_reducible exact ascii_Pad.mono _ _ _)
      | (with_reducible exact ascii_Text.mono _ _)
      | (with_reducible exact cringlelaw01_alive.mono _)
      | (with_reducible exact LeO.refl _)
      | (with_reducible exact LeO.none _)
      | (with_reducible refine LeO.ite ?_ ?_)
      | (with_reducible refine LeO.bind ?_ (fun _ => ?_))
      | exact ih0 _
      | exact ih1 _ _
      | exact ascii_Number.mono _ _ _
      | exact ascii_Pad.mono _ _ _
      | exact ascii_Text.mono _ _
      | exact cringlelaw01_alive.mono _
      | exact LeO.none _
      | refine LeO.ite ?_ ?_
      | refine LeO.bind ?_ (fun _ => ?_)
theorem cringlelaw01_AsciiBack.mono : ∀ a0 a1 k, LeO (cringlelaw01_AsciiBack.f k a0 a1) (cringlelaw01_AsciiBack.f (k + 1) a0 a1) := by
  intro a0 a1 k
  obtain ⟨ih0, ih1⟩ := cringlelaw01_AsciiBack.mono_l k
  unfold cringlelaw01_AsciiBack.f
  repeat' first
      | (with_reducible exact ih0 _)
      | (with_reducible exact ih1 _ _)
      | (with_reducible exact ascii_Number.mono _ _ _)
      | (with_reducible exact ascii_Pad.mono _ _ _)
      | (with_reducible exact ascii_Text.mono _ _)
      | (with_reducible exact cringlelaw01_alive.mono _)
      | (with_reducible exact LeO.refl _)
      | (with_reducible exact LeO.none _)
      | (with_reducible refine LeO.ite ?_ ?_)
      | (with_reducible refine LeO.bind ?_ (fun _ => ?_))
      | exact ih0 _
      | exact ih1 _ _
      | exact ascii_Number.mono _ _ _
      | exact ascii_Pad.mono _ _ _
      | exact ascii_Text.mono _ _
      | exact cringlelaw01_alive.mono _
      | exact LeO.none _
      | refine LeO.ite ?_ ?_
      | refine LeO.bind ?_ (fun _ => ?_)
set_option maxHeartbeats 8000000 in
set_option maxRecDepth 100000 in
theorem cringlelaw01_AsciiBack.calls (k : Nat) (a0 : Int) (a1 : ByteArray) (r : Bool) (w : World) (h : cringlelaw01_AsciiBack.f k a0 a1 = some r) (htrue : Aside0 (r = true)) :
    Calls Try.prog 6 #[.int .i64 a0, .string a1] w fun e w' => e = .returned (.bool r) ∧ Below w.heap.size w w' := by
  have HB := Aside0.mk (Below.refl w.heap.size w)
  have H : ((cringlelaw01_long.f a1).bind fun t175 => (if t175 = true then ((cringlelaw01_alive.f k).bind fun t176 => (some t176)) else (if a0 ≥ 0 then ((ascii_Text.f k a0).bind fun t177 => ((ascii_Number.f k t177 9223372036854775807).bind fun bt178 => ((ascii_Pad.f k a0 20).bind fun t180 => ((ascii_Number.f k t180 9223372036854775807).bind fun bt181 => (if bt178.1 = a0 then (if bt178.2 = 0 then (if bt181.1 = a0 then (if bt181.2 = 0 then (cringlelaw01_AsciiBack.j0 k a1) else (some false)) else (some false)) else (some false)) else (some false)))))) else (cringlelaw01_AsciiBack.j0 k a1)))) = some r := h
  clear h
  replace H := Option.bind_eq_some_iff.mp H
  obtain ⟨t175, A30, H⟩ := H
  replace H : (if t175 = true then ((cringlelaw01_alive.f k).bind fun t176 => (some t176)) else (if a0 ≥ 0 then ((ascii_Text.f k a0).bind fun t177 => ((ascii_Number.f k t177 9223372036854775807).bind fun bt178 => ((ascii_Pad.f k a0 20).bind fun t180 => ((ascii_Number.f k t180 9223372036854775807).bind fun bt181 => (if bt178.1 = a0 then (if bt178.2 = 0 then (if bt181.1 = a0 then (if bt181.2 = 0 then (cringlelaw01_AsciiBack.j0 k a1) else (some false)) else (some false)) else (some false)) else (some false)))))) else (cringlelaw01_AsciiBack.j0 k a1))) = some r := H
  have A3 := Aside0.mk A30
  clear A30
  by_cases c4 : t175 = true
  · subst c4
    have H1 : ((cringlelaw01_alive.f k).bind fun t176 => (some t176)) = some r := by rw [if_pos rfl] at H; exact H
    clear H
    have H := H1
    clear H1
    replace H := Option.bind_eq_some_iff.mp H
    obtain ⟨t176, A50, H⟩ := H
    replace H : (some t176) = some r := H
    have A5 := Aside0.mk A50
    clear A50
    obtain rfl := Option.some.inj H
    go_enter Try.func6, Try.ntmps6
    go_wp2_with (first | ((with_reducible refine gate_callee (f := 20) rfl ?_); refine goesL_ (some 12) rfl rfl Try.func20 (by kernel_rfl) rfl #[.string a1] rfl (by (try simp only [List.map_toArray, List.map_cons, List.map_nil]); first | done | rfl | (simp only [List.length_drop, List.length_take]; rfl)) ?_; (with_reducible refine (cringlelaw01_long.calls a1 true _ A3.out).mono ?_); rintro e w' ⟨rfl, ⟨nd, rfl⟩⟩; refine ⟨_, rfl, ?_⟩) | ((with_reducible refine gate_callee (f := 15) rfl ?_); refine goesL_ (some 13) rfl rfl Try.func15 (by kernel_rfl) rfl #[] rfl (by (try simp only [List.map_toArray, List.map_cons, List.map_nil]); first | done | rfl | (simp only [List.length_drop, List.length_take]; rfl)) ?_; (with_reducible refine (cringlelaw01_alive.calls k  t176 _ A5.out).mono ?_); rintro e w6 ⟨rfl, hb⟩; refine ⟨_, rfl, ?_⟩; have n0_ := Aside0.mk (below_step (by repeat (first | (with_reducible first | exact HB.out | apply below_alloc | apply pw_below_drewN | apply below_drew1) | exact HB.out)) hb); clear HB; have HB := n0_; clear n0_; (try clear hb); (try clear hb2); (try clear hk); (try clear hi)))
    go_ret
    exact ⟨by first | rfl | (simp [errW_none, errW_some] <;> rfl) | (simp [*, errW_none, errW_some] <;> rfl), by repeat (first | (with_reducible first | exact HB.out | apply below_alloc | apply pw_below_drewN | apply below_drew1) | exact HB.out)⟩
  · replace c4 := Bool.eq_false_iff.mpr c4
    subst c4
    have H1 : (if a0 ≥ 0 then ((ascii_Text.f k a0).bind fun t177 => ((ascii_Number.f k t177 9223372036854775807).bind fun bt178 => ((ascii_Pad.f k a0 20).bind fun t180 => ((ascii_Number.f k t180 9223372036854775807).bind fun bt181 => (if bt178.1 = a0 then (if bt178.2 = 0 then (if bt181.1 = a0 then (if bt181.2 = 0 then (cringlelaw01_AsciiBack.j0 k a1) else (some false)) else (some false)) else (some false)) else (some false)))))) else (cringlelaw01_AsciiBack.j0 k a1)) = some r := by rw [if_neg (show ¬ (false = true) by decide)] at H; exact H
    clear H
    have H := H1
    clear H1
    have HC7 := Aside0.mk H
    clear H
    go_enter Try.func6, Try.ntmps6
    go_upto_if 15 with (first | ((with_reducible refine gate_callee (f := 20) rfl ?_); refine goesL_ (some 12) rfl rfl Try.func20 (by kernel_rfl) rfl #[.string a1] rfl (by (try simp only [List.map_toArray, List.map_cons, List.map_nil]); first | done | rfl | (simp only [List.length_drop, List.length_take]; rfl)) ?_; (with_reducible refine (cringlelaw01_long.calls a1 false _ A3.out).mono ?_); rintro e w' ⟨rfl, ⟨nd, rfl⟩⟩; refine ⟨_, rfl, ?_⟩))
    (try simp only [Act.put, List.setIfInBounds_toArray, List.set_cons_zero, List.set_cons_succ])
    go_cut [] (fun wc => ∃ (kq : Nat), Aside0 (cringlelaw01_AsciiBack.j0 kq a1 = some r) ∧ Aside0 (kq ≤ k) ∧ Aside0 (Below w.heap.size w wc))
    case first =>
      have H := HC7.out
      clear HC7
      by_cases c8 : a0 ≥ 0
      · rw [if_pos c8] at H
        have c8b0 : decide (0 ≤ a0) = true := decide_eq_true c8
        clear c8
        (first | rw [c8b0] | (simp only [i64_w, i32_w]; rw [c8b0]) | skip)
        replace H := Option.bind_eq_some_iff.mp H
        obtain ⟨t177, A90, H⟩ := H
        replace H : ((ascii_Number.f k t177 9223372036854775807).bind fun bt178 => ((ascii_Pad.f k a0 20).bind fun t180 => ((ascii_Number.f k t180 9223372036854775807).bind fun bt181 => (if bt178.1 = a0 then (if bt178.2 = 0 then (if bt181.1 = a0 then (if bt181.2 = 0 then (cringlelaw01_AsciiBack.j0 k a1) else (some false)) else (some false)) else (some false)) else (some false))))) = some r := H
        have A9 := Aside0.mk A90
        clear A90
        replace H := Option.bind_eq_some_iff.mp H
        obtain ⟨⟨t178, t179⟩, A100, H⟩ := H
        replace H : ((ascii_Pad.f k a0 20).bind fun t180 => ((ascii_Number.f k t180 9223372036854775807).bind fun bt181 => (if t178 = a0 then (if t179 = 0 then (if bt181.1 = a0 then (if bt181.2 = 0 then (cringlelaw01_AsciiBack.j0 k a1) else (some false)) else (some false)) else (some false)) else (some false)))) = some r := H
        have A10 := Aside0.mk A100
        clear A100
        replace H := Option.bind_eq_some_iff.mp H
        obtain ⟨t180, A110, H⟩ := H
        replace H : ((ascii_Number.f k t180 9223372036854775807).bind fun bt181 => (if t178 = a0 then (if t179 = 0 then (if bt181.1 = a0 then (if bt181.2 = 0 then (cringlelaw01_AsciiBack.j0 k a1) else (some false)) else (some false)) else (some false)) else (some false))) = some r := H
        have A11 := Aside0.mk A110
        clear A110
        replace H := Option.bind_eq_some_iff.mp H
        obtain ⟨⟨t181, t182⟩, A120, H⟩ := H
        replace H : (if t178 = a0 then (if t179 = 0 then (if t181 = a0 then (if t182 = 0 then (cringlelaw01_AsciiBack.j0 k a1) else (some false)) else (some false)) else (some false)) else (some false)) = some r := H
        have A12 := Aside0.mk A120
        clear A120
        by_cases c13 : t178 = a0
        · rw [if_pos c13] at H
          have c13b0 : (t178 == a0) = true := beq_iff_eq.mpr c13
          have c13b1 : (t178 != a0) = false := bne_eq_false_iff_eq.mpr c13
          clear c13
          by_cases c14 : t179 = 0
          · rw [if_pos c14] at H
            have c14b0 : (t179 == 0) = true := beq_iff_eq.mpr c14
            have c14b1 : (t179 != 0) = false := bne_eq_false_iff_eq.mpr c14
            clear c14
            by_cases c15 : t181 = a0
            · rw [if_pos c15] at H
              have c15b0 : (t181 == a0) = true := beq_iff_eq.mpr c15
              have c15b1 : (t181 != a0) = false := bne_eq_false_iff_eq.mpr c15
              clear c15
              by_cases c16 : t182 = 0
              · rw [if_pos c16] at H
                have c16b0 : (t182 == 0) = true := beq_iff_eq.mpr c16
                have c16b1 : (t182 != 0) = false := bne_eq_false_iff_eq.mpr c16
                clear c16
                have H' := Aside0.mk H
                clear H
                go_wp2_with (first | ((with_reducible refine gate_callee (f := 16) rfl ?_); refine goesL_ (some 18) rfl rfl Try.func16 (by kernel_rfl) rfl #[.int .i64 a0] rfl (by (try simp only [List.map_toArray, List.map_cons, List.map_nil]); first | done | rfl | (simp only [List.length_drop, List.length_take]; rfl)) ?_; (with_reducible refine (ascii_Text.calls k a0 t177 _ A9.out).mono ?_); rintro e w17 ⟨rfl, hb⟩; refine ⟨_, rfl, ?_⟩; have n0_ := Aside0.mk (below_step (by repeat (first | (with_reducible first | exact HB.out | apply below_alloc | apply pw_below_drewN | apply below_drew1) | exact HB.out)) hb); clear HB; have HB := n0_; clear n0_; (try clear hb); (try clear hb2); (try clear hk); (try clear hi)) | ((with_reducible refine gate_callee (f := 21) rfl ?_); refine goesL_ (some 19) rfl rfl Try.func21 (by kernel_rfl) rfl #[.string t177, .int .i64 9223372036854775807] rfl (by (try simp only [List.map_toArray, List.map_cons, List.map_nil]); first | done | rfl | (simp only [List.length_drop, List.length_take]; rfl)) ?_; (with_reducible refine (ascii_Number.calls k t177 9223372036854775807 t178 t179 _ A10.out).mono ?_); rintro e w' ⟨rfl, ⟨nd, rfl⟩⟩; refine ⟨_, rfl, ?_⟩) | ((with_reducible refine gate_callee (f := 18) rfl ?_); refine goesL_ (some 24) rfl rfl Try.func18 (by kernel_rfl) rfl #[.int .i64 a0, .int .i64 20] rfl (by (try simp only [List.map_toArray, List.map_cons, List.map_nil]); first | done | rfl | (simp only [List.length_drop, List.length_take]; rfl)) ?_; (with_reducible refine (ascii_Pad.calls k a0 20 t180 _ A11.out).mono ?_); rintro e w18 ⟨rfl, hb⟩; refine ⟨_, rfl, ?_⟩; have n0_ := Aside0.mk (below_step (by repeat (first | (with_reducible first | exact HB.out | apply below_alloc | apply pw_below_drewN | apply below_drew1) | exact HB.out)) hb); clear HB; have HB := n0_; clear n0_; (try clear hb); (try clear hb2); (try clear hk); (try clear hi)) | ((with_reducible refine gate_callee (f := 21) rfl ?_); refine goesL_ (some 25) rfl rfl Try.func21 (by kernel_rfl) rfl #[.string t180, .int .i64 9223372036854775807] rfl (by (try simp only [List.map_toArray, List.map_cons, List.map_nil]); first | done | rfl | (simp only [List.length_drop, List.length_take]; rfl)) ?_; (with_reducible refine (ascii_Number.calls k t180 9223372036854775807 t181 t182 _ A12.out).mono ?_); rintro e w' ⟨rfl, ⟨nd, rfl⟩⟩; refine ⟨_, rfl, ?_⟩))
                go_meet
                case rel => exact ⟨_, H', ⟨by first | omega | exact Nat.le_refl _⟩, ⟨by repeat (first | (with_reducible first | exact HB.out | apply below_alloc | apply pw_below_drewN | apply below_drew1) | exact HB.out)⟩⟩
              · rw [if_neg c16] at H
                have c16b0 : (t182 == 0) = false := beq_eq_false_iff_ne.mpr c16
                have c16b1 : (t182 != 0) = true := bne_iff_ne.mpr c16
                exact absurd (Option.some.inj H) (by rw [htrue.out]; decide)
            · rw [if_neg c15] at H
              have c15b0 : (t181 == a0) = false := beq_eq_false_iff_ne.mpr c15
              have c15b1 : (t181 != a0) = true := bne_iff_ne.mpr c15
              exact absurd (Option.some.inj H) (by rw [htrue.out]; decide)
          · rw [if_neg c14] at H
            have c14b0 : (t179 == 0) = false := beq_eq_false_iff_ne.mpr c14
            have c14b1 : (t179 != 0) = true := bne_iff_ne.mpr c14
            exact absurd (Option.some.inj H) (by rw [htrue.out]; decide)
        · rw [if_neg c13] at H
          have c13b0 : (t178 == a0) = false := beq_eq_false_iff_ne.mpr c13
          have c13b1 : (t178 != a0) = true := bne_iff_ne.mpr c13
          exact absurd (Option.some.inj H) (by rw [htrue.out]; decide)
      · rw [if_neg c8] at H
        have c8b0 : decide (0 ≤ a0) = false := decide_eq_false c8
        clear c8
        (first | rw [c8b0] | (simp only [i64_w, i32_w]; rw [c8b0]) | skip)
        have H' := Aside0.mk H
        clear H
        go_wp2
        go_meet
        case rel => exact ⟨_, H', ⟨by first | omega | exact Nat.le_refl _⟩, ⟨by repeat (first | (with_reducible first | exact HB.out | apply below_alloc | apply pw_below_drewN | apply below_drew1) | exact HB.out)⟩⟩
    case rest =>
      clear HC7
      try clear c1
      try clear c2
      try clear p2
      try clear c4
      try clear c6
      try clear c8
      try clear c8b0
      try clear c13
      try clear c13b0
      try clear c13b1
      try clear c14
      try clear c14b0
      try clear c14b1
      try clear c15
      try clear c15b0
      try clear c15b1
      try clear c16
      try clear c16b0
      try clear c16b1
      try clear c18
      obtain ⟨kq, HA, HJ6, HB⟩ := hcut
      cases kq with
      | zero => exact absurd HA.out (by simp [cringlelaw01_AsciiBack.j0])
      | succ kj6 =>
        have H := HA.out
        clear HA
        simp only [cringlelaw01_AsciiBack.j0] at H
        replace H := Option.bind_eq_some_iff.mp H
        obtain ⟨⟨t183, t184⟩, A190, H⟩ := H
        replace H : (if t184 = 0 then (cringlelaw01_AsciiBack.l0 kj6 a1 t183) else (if t183 = 0 then ((cringlelaw01_alive.f kj6).bind fun t185 => (some t185)) else (some false))) = some r := H
        have A19 := Aside0.mk A190
        clear A190
        by_cases c20 : t184 = 0
        · rw [if_pos c20] at H
          have c20b0 : (t184 == 0) = true := beq_iff_eq.mpr c20
          have c20b1 : (t184 != 0) = false := bne_eq_false_iff_eq.mpr c20
          clear c20
          have H' := Aside0.mk H
          clear H
          go_wp2_with (first | ((with_reducible refine gate_callee (f := 21) rfl ?_); refine goesL_ (some 46) rfl rfl Try.func21 (by kernel_rfl) rfl #[.string a1, .int .i64 9223372036854775807] rfl (by (try simp only [List.map_toArray, List.map_cons, List.map_nil]); first | done | rfl | (simp only [List.length_drop, List.length_take]; rfl)) ?_; (with_reducible refine (ascii_Number.calls kj6 a1 9223372036854775807 t183 t184 _ A19.out).mono ?_); rintro e w' ⟨rfl, ⟨nd, rfl⟩⟩; refine ⟨_, rfl, ?_⟩))
          go_loopg [1] kj6 (fun kq v1 w' => ∃ (x1_2 : ByteArray), v1 = .string x1_2 ∧ Aside0 (cringlelaw01_AsciiBack.l0 kq x1_2 t183 = some r) ∧ Aside0 (kq ≤ kj6) ∧ Aside0 (Below w.heap.size w w'))
          case atStart => exact ⟨(a1), (by first | rfl | (simp; done) | (simp [*]; done)), H', ⟨Nat.le_refl _⟩, ⟨by repeat (first | (with_reducible first | exact HB.out | apply below_alloc | apply pw_below_drewN | apply below_drew1) | exact HB.out)⟩⟩
          case round =>
            clear H'
            try clear c1
            try clear c2
            try clear p2
            try clear c4
            try clear c6
            try clear c8
            try clear c8b0
            try clear c13
            try clear c13b0
            try clear c13b1
            try clear c14
            try clear c14b0
            try clear c14b1
            try clear c15
            try clear c15b0
            try clear c15b1
            try clear c16
            try clear c16b0
            try clear c16b1
            try clear c18
            try clear c20
            try clear c20b0
            try clear c20b1
            try clear p2
            obtain ⟨x1_2, rfl, HA, HK2, HB⟩ := hrel
            cases gk with
            | zero => exact absurd HA.out (by simp [cringlelaw01_AsciiBack.l0])
            | succ k2 =>
              have H := HA.out
              clear HA
              simp only [cringlelaw01_AsciiBack.l0] at H
              by_cases c21 : (x1_2.size : Int) > 1
              · rw [if_pos c21] at H
                have c21b0 : decide (1 < (x1_2.size : Int)) = true := decide_eq_true c21
                have c21b1 : decide (1 < x1_2.size) = true := decide_eq_true (by omega)
                clear c21
                by_cases c22 : 0 < (x1_2.size : Int)
                · rw [if_pos c22] at H
                  have c22b0 : decide (0 < (x1_2.size : Int)) = true := decide_eq_true c22
                  have c22b1 : decide (0 < x1_2.size) = true := decide_eq_true (by omega)
                  clear c22
                  by_cases c24 : (bt x1_2 0) = 48
                  · rw [if_pos c24] at H
                    have c24b0 : ((bt x1_2 0) == 48) = true := beq_iff_eq.mpr c24
                    have c24b1 : ((bt x1_2 0) != 48) = false := bne_eq_false_iff_eq.mpr c24
                    clear c24
                    by_cases c25 : 1 ≤ (x1_2.size : Int)
                    · rw [if_pos c25] at H
                      have c25b0 := eq_true c25
                      have c25b1 : decide (1 ≤ (x1_2.size : Int)) = true := decide_eq_true c25
                      clear c25
                      have H' := Aside0.mk H
                      clear H
                      have p23 : 0 ≤ (0 : Int) := (by omega)
                      have q23 : 0 < x1_2.size := (by have : (0 : Int) < (x1_2.size : Int) := of_decide_eq_true (by first | (with_reducible assumption) | assumption); omega)
                      have hx23 : ∀ h : 0 < x1_2.size, ((x1_2[0]'h).toNat : Int) = bt x1_2 0 := bt_at x1_2 0
                      clear p23
                      have qi23 : (0 < (x1_2.size : Int)) = True := eq_true (of_decide_eq_true (by first | (with_reducible assumption) | assumption))
                      replace q23 := eq_true q23
                      go_wp2
                      go_roundg k2
                      case measure => have := HJ6.out; have := HK2.out; omega
                      case rel => exact ⟨(x1_2.extract 1 x1_2.size), (by first | rfl | (simp; done) | (simp [*]; done)), H', ⟨by have := HJ6.out; have := HK2.out; omega⟩, ⟨by repeat (first | (with_reducible first | exact HB.out | apply below_alloc | apply pw_below_drewN | apply below_drew1) | exact HB.out)⟩⟩
                    · rw [if_neg c25] at H
                      exact absurd H (by simp)
                  · rw [if_neg c24] at H
                    have c24b0 : ((bt x1_2 0) == 48) = false := beq_eq_false_iff_ne.mpr c24
                    have c24b1 : ((bt x1_2 0) != 48) = true := bne_iff_ne.mpr c24
                    replace H := Option.bind_eq_some_iff.mp H
                    obtain ⟨t186, A260, H⟩ := H
                    replace H : (if t186.toList = x1_2.toList then ((cringlelaw01_alive.f k2).bind fun t187 => (some t187)) else (some false)) = some r := H
                    have A26 := Aside0.mk A260
                    clear A260
                    by_cases c27 : t186.toList = x1_2.toList
                    · rw [if_pos c27] at H
                      have c27b0 : (t186.toList == x1_2.toList) = true := beq_iff_eq.mpr c27
                      have c27b1 : (t186.toList != x1_2.toList) = false := bne_eq_false_iff_eq.mpr c27
                      clear c27
                      replace H := Option.bind_eq_some_iff.mp H
                      obtain ⟨t187, A280, H⟩ := H
                      replace H : (some t187) = some r := H
                      have A28 := Aside0.mk A280
                      clear A280
                      obtain rfl := Option.some.inj H
                      have p23 : 0 ≤ (0 : Int) := (by omega)
                      have q23 : 0 < x1_2.size := (by have : (0 : Int) < (x1_2.size : Int) := of_decide_eq_true (by first | (with_reducible assumption) | assumption); omega)
                      have hx23 : ∀ h : 0 < x1_2.size, ((x1_2[0]'h).toNat : Int) = bt x1_2 0 := bt_at x1_2 0
                      clear p23
                      have qi23 : (0 < (x1_2.size : Int)) = True := eq_true (of_decide_eq_true (by first | (with_reducible assumption) | assumption))
                      replace q23 := eq_true q23
                      go_wp2_with (first | ((with_reducible refine gate_callee (f := 16) rfl ?_); refine goesL_ (some 67) rfl rfl Try.func16 (by kernel_rfl) rfl #[.int .i64 t183] rfl (by (try simp only [List.map_toArray, List.map_cons, List.map_nil]); first | done | rfl | (simp only [List.length_drop, List.length_take]; rfl)) ?_; (with_reducible refine (ascii_Text.calls k2 t183 t186 _ A26.out).mono ?_); rintro e w29 ⟨rfl, hb⟩; refine ⟨_, rfl, ?_⟩; have n0_ := Aside0.mk (below_step (by repeat (first | (with_reducible first | exact HB.out | apply below_alloc | apply pw_below_drewN | apply below_drew1) | exact HB.out)) hb); clear HB; have HB := n0_; clear n0_; (try clear hb); (try clear hb2); (try clear hk); (try clear hi)) | (go_at_call 15; (with_reducible refine (cringlelaw01_alive.calls k2  t187 _ A28.out).mono ?_); rintro e w30 ⟨rfl, hb⟩; have n0_ := Aside0.mk (below_step (by repeat (first | (with_reducible first | exact HB.out | apply below_alloc | apply pw_below_drewN | apply below_drew1) | exact HB.out)) hb); clear HB; have HB := n0_; clear n0_; (try clear hb); (try clear hb2); (try clear hk); (try clear hi)))
                      go_ret
                      exact ⟨by first | rfl | (simp [errW_none, errW_some] <;> rfl) | (simp [*, errW_none, errW_some] <;> rfl), by repeat (first | (with_reducible first | exact HB.out | apply below_alloc | apply pw_below_drewN | apply below_drew1) | exact HB.out)⟩
                    · rw [if_neg c27] at H
                      have c27b0 : (t186.toList == x1_2.toList) = false := beq_eq_false_iff_ne.mpr c27
                      have c27b1 : (t186.toList != x1_2.toList) = true := bne_iff_ne.mpr c27
                      exact absurd (Option.some.inj H) (by rw [htrue.out]; decide)
                · rw [if_neg c22] at H
                  exact absurd H (by simp)
              · rw [if_neg c21] at H
                have c21b0 : decide (1 < (x1_2.size : Int)) = false := decide_eq_false c21
                have c21b1 : decide (1 < x1_2.size) = false := decide_eq_false (by omega)
                clear c21
                replace H := Option.bind_eq_some_iff.mp H
                obtain ⟨t188, A310, H⟩ := H
                replace H : (if t188.toList = x1_2.toList then ((cringlelaw01_alive.f k2).bind fun t189 => (some t189)) else (some false)) = some r := H
                have A31 := Aside0.mk A310
                clear A310
                by_cases c32 : t188.toList = x1_2.toList
                · rw [if_pos c32] at H
                  have c32b0 : (t188.toList == x1_2.toList) = true := beq_iff_eq.mpr c32
                  have c32b1 : (t188.toList != x1_2.toList) = false := bne_eq_false_iff_eq.mpr c32
                  clear c32
                  replace H := Option.bind_eq_some_iff.mp H
                  obtain ⟨t189, A330, H⟩ := H
                  replace H : (some t189) = some r := H
                  have A33 := Aside0.mk A330
                  clear A330
                  obtain rfl := Option.some.inj H
                  go_wp2_with (first | ((with_reducible refine gate_callee (f := 16) rfl ?_); refine goesL_ (some 67) rfl rfl Try.func16 (by kernel_rfl) rfl #[.int .i64 t183] rfl (by (try simp only [List.map_toArray, List.map_cons, List.map_nil]); first | done | rfl | (simp only [List.length_drop, List.length_take]; rfl)) ?_; (with_reducible refine (ascii_Text.calls k2 t183 t188 _ A31.out).mono ?_); rintro e w34 ⟨rfl, hb⟩; refine ⟨_, rfl, ?_⟩; have n0_ := Aside0.mk (below_step (by repeat (first | (with_reducible first | exact HB.out | apply below_alloc | apply pw_below_drewN | apply below_drew1) | exact HB.out)) hb); clear HB; have HB := n0_; clear n0_; (try clear hb); (try clear hb2); (try clear hk); (try clear hi)) | (go_at_call 15; (with_reducible refine (cringlelaw01_alive.calls k2  t189 _ A33.out).mono ?_); rintro e w35 ⟨rfl, hb⟩; have n0_ := Aside0.mk (below_step (by repeat (first | (with_reducible first | exact HB.out | apply below_alloc | apply pw_below_drewN | apply below_drew1) | exact HB.out)) hb); clear HB; have HB := n0_; clear n0_; (try clear hb); (try clear hb2); (try clear hk); (try clear hi)))
                  go_ret
                  exact ⟨by first | rfl | (simp [errW_none, errW_some] <;> rfl) | (simp [*, errW_none, errW_some] <;> rfl), by repeat (first | (with_reducible first | exact HB.out | apply below_alloc | apply pw_below_drewN | apply below_drew1) | exact HB.out)⟩
                · rw [if_neg c32] at H
                  have c32b0 : (t188.toList == x1_2.toList) = false := beq_eq_false_iff_ne.mpr c32
                  have c32b1 : (t188.toList != x1_2.toList) = true := bne_iff_ne.mpr c32
                  exact absurd (Option.some.inj H) (by rw [htrue.out]; decide)
        · rw [if_neg c20] at H
          have c20b0 : (t184 == 0) = false := beq_eq_false_iff_ne.mpr c20
          have c20b1 : (t184 != 0) = true := bne_iff_ne.mpr c20
          by_cases c36 : t183 = 0
          · rw [if_pos c36] at H
            have c36b0 : (t183 == 0) = true := beq_iff_eq.mpr c36
            have c36b1 : (t183 != 0) = false := bne_eq_false_iff_eq.mpr c36
            clear c36
            replace H := Option.bind_eq_some_iff.mp H
            obtain ⟨t185, A370, H⟩ := H
            replace H : (some t185) = some r := H
            have A37 := Aside0.mk A370
            clear A370
            obtain rfl := Option.some.inj H
            go_wp2_with (first | ((with_reducible refine gate_callee (f := 21) rfl ?_); refine goesL_ (some 46) rfl rfl Try.func21 (by kernel_rfl) rfl #[.string a1, .int .i64 9223372036854775807] rfl (by (try simp only [List.map_toArray, List.map_cons, List.map_nil]); first | done | rfl | (simp only [List.length_drop, List.length_take]; rfl)) ?_; (with_reducible refine (ascii_Number.calls kj6 a1 9223372036854775807 t183 t184 _ A19.out).mono ?_); rintro e w' ⟨rfl, ⟨nd, rfl⟩⟩; refine ⟨_, rfl, ?_⟩) | (go_at_call 15; (with_reducible refine (cringlelaw01_alive.calls kj6  t185 _ A37.out).mono ?_); rintro e w38 ⟨rfl, hb⟩; have n0_ := Aside0.mk (below_step (by repeat (first | (with_reducible first | exact HB.out | apply below_alloc | apply pw_below_drewN | apply below_drew1) | exact HB.out)) hb); clear HB; have HB := n0_; clear n0_; (try clear hb); (try clear hb2); (try clear hk); (try clear hi)))
            go_ret
            exact ⟨by first | rfl | (simp [errW_none, errW_some] <;> rfl) | (simp [*, errW_none, errW_some] <;> rfl), by repeat (first | (with_reducible first | exact HB.out | apply below_alloc | apply pw_below_drewN | apply below_drew1) | exact HB.out)⟩
          · rw [if_neg c36] at H
            have c36b0 : (t183 == 0) = false := beq_eq_false_iff_ne.mpr c36
            have c36b1 : (t183 != 0) = true := bne_iff_ne.mpr c36
            exact absurd (Option.some.inj H) (by rw [htrue.out]; decide)

end Go.Proofs.Ytgbpmhkaobjnpaa.Q
