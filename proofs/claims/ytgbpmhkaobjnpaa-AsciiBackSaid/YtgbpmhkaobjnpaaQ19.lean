-- printed by a program of the session's own; Lean checks it
import Derived.Test.YtgbpmhkaobjnpaaQ0
import Derived.Test.YtgbpmhkaobjnpaaQ6
import Derived.Test.YtgbpmhkaobjnpaaQ10
import Derived.Test.YtgbpmhkaobjnpaaQ14
import Derived.Test.YtgbpmhkaobjnpaaQ15
import Derived.Test.YtgbpmhkaobjnpaaQ16
import Derived.Test.YtgbpmhkaobjnpaaQ18
namespace Go.Proofs.Ytgbpmhkaobjnpaa.Q
open Go.RowKit Go.Proofs.YtgbpmhkaobjnpaaW.PrintWords Go.Proofs.YtgbpmhkaobjnpaaW.PrintLast Go.Proofs.YtgbpmhkaobjnpaaW.PrintMore
attribute [local go_sem] max2_int min2_int max_two min_two max_three min_three max_four min_four   -- for this text's walks alone
set_option linter.unusedVariables false
set_option linter.unusedSimpArgs false

/-! ### cringlelaw01_AsciiNumbers: function 5 -/
def cringlelaw01_AsciiNumbers.f (k : Nat) (a0 : ByteArray) (a1 : Int) : Option (Bool) := (cringlelaw01_long.f a0).bind fun t164 => (if t164 = true then ((cringlelaw01_alive.f k).bind fun t165 => (some t165)) else ((ascii_Number.f k a0 a1).bind fun bt166 => ((cringleref01_Number.f k a0 a1).bind fun bt168 => ((ascii_Hex.f k a0).bind fun bt170 => ((cringleref01_Hex.f k a0).bind fun bt172 => (if bt166.1 = bt168.1 then (if bt166.2 = bt168.2 then (if bt170.1 = bt172.1 then (if bt170.2 = bt172.2 then ((cringlelaw01_alive.f k).bind fun t174 => (some t174)) else (some false)) else (some false)) else (some false)) else (some false)))))))
theorem cringlelaw01_AsciiNumbers.mono : ∀ a0 a1 k, LeO (cringlelaw01_AsciiNumbers.f k a0 a1) (cringlelaw01_AsciiNumbers.f (k + 1) a0 a1) := by
  intro a0 a1 k
  unfold cringlelaw01_AsciiNumbers.f
  repeat' first
      | (with_reducible exact ascii_Hex.mono _ _)
      | (with_reducible exact ascii_Number.mono _ _ _)
      | (with_reducible exact cringlelaw01_alive.mono _)
      | (with_reducible exact cringleref01_Hex.mono _ _)
      | (with_reducible exact cringleref01_Number.mono _ _ _)
      | (with_reducible exact LeO.refl _)
      | (with_reducible exact LeO.none _)
      | (with_reducible refine LeO.ite ?_ ?_)
      | (with_reducible refine LeO.bind ?_ (fun _ => ?_))
      | exact ascii_Hex.mono _ _
      | exact ascii_Number.mono _ _ _
      | exact cringlelaw01_alive.mono _
      | exact cringleref01_Hex.mono _ _
      | exact cringleref01_Number.mono _ _ _
      | exact LeO.none _
      | refine LeO.ite ?_ ?_
      | refine LeO.bind ?_ (fun _ => ?_)
set_option maxHeartbeats 8000000 in
set_option maxRecDepth 100000 in
theorem cringlelaw01_AsciiNumbers.calls (k : Nat) (a0 : ByteArray) (a1 : Int) (r : Bool) (w : World) (h : cringlelaw01_AsciiNumbers.f k a0 a1 = some r) (htrue : Aside0 (r = true)) :
    Calls Try.prog 5 #[.string a0, .int .i64 a1] w fun e w' => e = .returned (.bool r) ∧ Below w.heap.size w w' := by
  have HB := Aside0.mk (Below.refl w.heap.size w)
  have H : ((cringlelaw01_long.f a0).bind fun t164 => (if t164 = true then ((cringlelaw01_alive.f k).bind fun t165 => (some t165)) else ((ascii_Number.f k a0 a1).bind fun bt166 => ((cringleref01_Number.f k a0 a1).bind fun bt168 => ((ascii_Hex.f k a0).bind fun bt170 => ((cringleref01_Hex.f k a0).bind fun bt172 => (if bt166.1 = bt168.1 then (if bt166.2 = bt168.2 then (if bt170.1 = bt172.1 then (if bt170.2 = bt172.2 then ((cringlelaw01_alive.f k).bind fun t174 => (some t174)) else (some false)) else (some false)) else (some false)) else (some false)))))))) = some r := h
  clear h
  replace H := Option.bind_eq_some_iff.mp H
  obtain ⟨t164, A30, H⟩ := H
  replace H : (if t164 = true then ((cringlelaw01_alive.f k).bind fun t165 => (some t165)) else ((ascii_Number.f k a0 a1).bind fun bt166 => ((cringleref01_Number.f k a0 a1).bind fun bt168 => ((ascii_Hex.f k a0).bind fun bt170 => ((cringleref01_Hex.f k a0).bind fun bt172 => (if bt166.1 = bt168.1 then (if bt166.2 = bt168.2 then (if bt170.1 = bt172.1 then (if bt170.2 = bt172.2 then ((cringlelaw01_alive.f k).bind fun t174 => (some t174)) else (some false)) else (some false)) else (some false)) else (some false))))))) = some r := H
  have A3 := Aside0.mk A30
  clear A30
  by_cases c4 : t164 = true
  · subst c4
    have H1 : ((cringlelaw01_alive.f k).bind fun t165 => (some t165)) = some r := by rw [if_pos rfl] at H; exact H
    clear H
    have H := H1
    clear H1
    replace H := Option.bind_eq_some_iff.mp H
    obtain ⟨t165, A50, H⟩ := H
    replace H : (some t165) = some r := H
    have A5 := Aside0.mk A50
    clear A50
    obtain rfl := Option.some.inj H
    go_enter Try.func5, Try.ntmps5
    go_wp2_with (first | ((with_reducible refine gate_callee (f := 20) rfl ?_); refine goesL_ (some 14) rfl rfl Try.func20 (by kernel_rfl) rfl #[.string a0] rfl (by (try simp only [List.map_toArray, List.map_cons, List.map_nil]); first | done | rfl | (simp only [List.length_drop, List.length_take]; rfl)) ?_; (with_reducible refine (cringlelaw01_long.calls a0 true _ A3.out).mono ?_); rintro e w' ⟨rfl, ⟨nd, rfl⟩⟩; refine ⟨_, rfl, ?_⟩) | ((with_reducible refine gate_callee (f := 15) rfl ?_); refine goesL_ (some 15) rfl rfl Try.func15 (by kernel_rfl) rfl #[] rfl (by (try simp only [List.map_toArray, List.map_cons, List.map_nil]); first | done | rfl | (simp only [List.length_drop, List.length_take]; rfl)) ?_; (with_reducible refine (cringlelaw01_alive.calls k  t165 _ A5.out).mono ?_); rintro e w6 ⟨rfl, hb⟩; refine ⟨_, rfl, ?_⟩; have n0_ := Aside0.mk (below_step (by repeat (first | (with_reducible first | exact HB.out | apply below_alloc | apply pw_below_drewN | apply below_drew1) | exact HB.out)) hb); clear HB; have HB := n0_; clear n0_; (try clear hb); (try clear hb2); (try clear hk); (try clear hi)))
    go_ret
    exact ⟨by first | rfl | (simp [errW_none, errW_some] <;> rfl) | (simp [*, errW_none, errW_some] <;> rfl), by repeat (first | (with_reducible first | exact HB.out | apply below_alloc | apply pw_below_drewN | apply below_drew1) | exact HB.out)⟩
  · replace c4 := Bool.eq_false_iff.mpr c4
    subst c4
    have H1 : ((ascii_Number.f k a0 a1).bind fun bt166 => ((cringleref01_Number.f k a0 a1).bind fun bt168 => ((ascii_Hex.f k a0).bind fun bt170 => ((cringleref01_Hex.f k a0).bind fun bt172 => (if bt166.1 = bt168.1 then (if bt166.2 = bt168.2 then (if bt170.1 = bt172.1 then (if bt170.2 = bt172.2 then ((cringlelaw01_alive.f k).bind fun t174 => (some t174)) else (some false)) else (some false)) else (some false)) else (some false)))))) = some r := by rw [if_neg (show ¬ (false = true) by decide)] at H; exact H
    clear H
    have H := H1
    clear H1
    replace H := Option.bind_eq_some_iff.mp H
    obtain ⟨⟨t166, t167⟩, A70, H⟩ := H
    replace H : ((cringleref01_Number.f k a0 a1).bind fun bt168 => ((ascii_Hex.f k a0).bind fun bt170 => ((cringleref01_Hex.f k a0).bind fun bt172 => (if t166 = bt168.1 then (if t167 = bt168.2 then (if bt170.1 = bt172.1 then (if bt170.2 = bt172.2 then ((cringlelaw01_alive.f k).bind fun t174 => (some t174)) else (some false)) else (some false)) else (some false)) else (some false))))) = some r := H
    have A7 := Aside0.mk A70
    clear A70
    replace H := Option.bind_eq_some_iff.mp H
    obtain ⟨⟨t168, t169⟩, A80, H⟩ := H
    replace H : ((ascii_Hex.f k a0).bind fun bt170 => ((cringleref01_Hex.f k a0).bind fun bt172 => (if t166 = t168 then (if t167 = t169 then (if bt170.1 = bt172.1 then (if bt170.2 = bt172.2 then ((cringlelaw01_alive.f k).bind fun t174 => (some t174)) else (some false)) else (some false)) else (some false)) else (some false)))) = some r := H
    have A8 := Aside0.mk A80
    clear A80
    replace H := Option.bind_eq_some_iff.mp H
    obtain ⟨⟨t170, t171⟩, A90, H⟩ := H
    replace H : ((cringleref01_Hex.f k a0).bind fun bt172 => (if t166 = t168 then (if t167 = t169 then (if t170 = bt172.1 then (if t171 = bt172.2 then ((cringlelaw01_alive.f k).bind fun t174 => (some t174)) else (some false)) else (some false)) else (some false)) else (some false))) = some r := H
    have A9 := Aside0.mk A90
    clear A90
    replace H := Option.bind_eq_some_iff.mp H
    obtain ⟨⟨t172, t173⟩, A100, H⟩ := H
    replace H : (if t166 = t168 then (if t167 = t169 then (if t170 = t172 then (if t171 = t173 then ((cringlelaw01_alive.f k).bind fun t174 => (some t174)) else (some false)) else (some false)) else (some false)) else (some false)) = some r := H
    have A10 := Aside0.mk A100
    clear A100
    by_cases c11 : t166 = t168
    · rw [if_pos c11] at H
      have c11b0 : (t166 == t168) = true := beq_iff_eq.mpr c11
      have c11b1 : (t166 != t168) = false := bne_eq_false_iff_eq.mpr c11
      clear c11
      by_cases c12 : t167 = t169
      · rw [if_pos c12] at H
        have c12b0 : (t167 == t169) = true := beq_iff_eq.mpr c12
        have c12b1 : (t167 != t169) = false := bne_eq_false_iff_eq.mpr c12
        clear c12
        by_cases c13 : t170 = t172
        · rw [if_pos c13] at H
          have c13b0 : (t170 == t172) = true := beq_iff_eq.mpr c13
          have c13b1 : (t170 != t172) = false := bne_eq_false_iff_eq.mpr c13
          clear c13
          by_cases c14 : t171 = t173
          · rw [if_pos c14] at H
            have c14b0 : (t171 == t173) = true := beq_iff_eq.mpr c14
            have c14b1 : (t171 != t173) = false := bne_eq_false_iff_eq.mpr c14
            clear c14
            replace H := Option.bind_eq_some_iff.mp H
            obtain ⟨t174, A150, H⟩ := H
            replace H : (some t174) = some r := H
            have A15 := Aside0.mk A150
            clear A150
            obtain rfl := Option.some.inj H
            go_enter Try.func5, Try.ntmps5
            go_wp2_with (first | ((with_reducible refine gate_callee (f := 20) rfl ?_); refine goesL_ (some 14) rfl rfl Try.func20 (by kernel_rfl) rfl #[.string a0] rfl (by (try simp only [List.map_toArray, List.map_cons, List.map_nil]); first | done | rfl | (simp only [List.length_drop, List.length_take]; rfl)) ?_; (with_reducible refine (cringlelaw01_long.calls a0 false _ A3.out).mono ?_); rintro e w' ⟨rfl, ⟨nd, rfl⟩⟩; refine ⟨_, rfl, ?_⟩) | ((with_reducible refine gate_callee (f := 21) rfl ?_); refine goesL_ (some 19) rfl rfl Try.func21 (by kernel_rfl) rfl #[.string a0, .int .i64 a1] rfl (by (try simp only [List.map_toArray, List.map_cons, List.map_nil]); first | done | rfl | (simp only [List.length_drop, List.length_take]; rfl)) ?_; (with_reducible refine (ascii_Number.calls k a0 a1 t166 t167 _ A7.out).mono ?_); rintro e w' ⟨rfl, ⟨nd, rfl⟩⟩; refine ⟨_, rfl, ?_⟩) | ((with_reducible refine gate_callee (f := 22) rfl ?_); refine goesL_ (some 25) rfl rfl Try.func22 (by kernel_rfl) rfl #[.string a0, .int .i64 a1] rfl (by (try simp only [List.map_toArray, List.map_cons, List.map_nil]); first | done | rfl | (simp only [List.length_drop, List.length_take]; rfl)) ?_; (with_reducible refine (cringleref01_Number.calls k a0 a1 t168 t169 _ A8.out).mono ?_); rintro e w' ⟨rfl, ⟨nd, rfl⟩⟩; refine ⟨_, rfl, ?_⟩) | ((with_reducible refine gate_callee (f := 23) rfl ?_); refine goesL_ (some 30) rfl rfl Try.func23 (by kernel_rfl) rfl #[.string a0] rfl (by (try simp only [List.map_toArray, List.map_cons, List.map_nil]); first | done | rfl | (simp only [List.length_drop, List.length_take]; rfl)) ?_; (with_reducible refine (ascii_Hex.calls k a0 t170 t171 _ A9.out).mono ?_); rintro e w' ⟨rfl, ⟨nd, rfl⟩⟩; refine ⟨_, rfl, ?_⟩) | ((with_reducible refine gate_callee (f := 24) rfl ?_); refine goesL_ (some 35) rfl rfl Try.func24 (by kernel_rfl) rfl #[.string a0] rfl (by (try simp only [List.map_toArray, List.map_cons, List.map_nil]); first | done | rfl | (simp only [List.length_drop, List.length_take]; rfl)) ?_; (with_reducible refine (cringleref01_Hex.calls k a0 t172 t173 _ A10.out).mono ?_); rintro e w' ⟨rfl, ⟨nd, rfl⟩⟩; refine ⟨_, rfl, ?_⟩) | (go_at_call 15; (with_reducible refine (cringlelaw01_alive.calls k  t174 _ A15.out).mono ?_); rintro e w16 ⟨rfl, hb⟩; have n0_ := Aside0.mk (below_step (by repeat (first | (with_reducible first | exact HB.out | apply below_alloc | apply pw_below_drewN | apply below_drew1) | exact HB.out)) hb); clear HB; have HB := n0_; clear n0_; (try clear hb); (try clear hb2); (try clear hk); (try clear hi)))
            go_ret
            exact ⟨by first | rfl | (simp [errW_none, errW_some] <;> rfl) | (simp [*, errW_none, errW_some] <;> rfl), by repeat (first | (with_reducible first | exact HB.out | apply below_alloc | apply pw_below_drewN | apply below_drew1) | exact HB.out)⟩
          · rw [if_neg c14] at H
            have c14b0 : (t171 == t173) = false := beq_eq_false_iff_ne.mpr c14
            have c14b1 : (t171 != t173) = true := bne_iff_ne.mpr c14
            exact absurd (Option.some.inj H) (by rw [htrue.out]; decide)
        · rw [if_neg c13] at H
          have c13b0 : (t170 == t172) = false := beq_eq_false_iff_ne.mpr c13
          have c13b1 : (t170 != t172) = true := bne_iff_ne.mpr c13
          exact absurd (Option.some.inj H) (by rw [htrue.out]; decide)
      · rw [if_neg c12] at H
        have c12b0 : (t167 == t169) = false := beq_eq_false_iff_ne.mpr c12
        have c12b1 : (t167 != t169) = true := bne_iff_ne.mpr c12
        exact absurd (Option.some.inj H) (by rw [htrue.out]; decide)
    · rw [if_neg c11] at H
      have c11b0 : (t166 == t168) = false := beq_eq_false_iff_ne.mpr c11
      have c11b1 : (t166 != t168) = true := bne_iff_ne.mpr c11
      exact absurd (Option.some.inj H) (by rw [htrue.out]; decide)

end Go.Proofs.Ytgbpmhkaobjnpaa.Q
