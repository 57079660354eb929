-- printed by a program of the session's own; Lean checks it
import Derived.Test.YtmaeodkdddbhoaaDoorQ0
import Derived.Test.YtmaeodkdddbhoaaDoorQ1
import Derived.Test.YtmaeodkdddbhoaaDoorQ6
namespace Go.Proofs.YtmaeodkdddbhoaaDoor.Q
open Go.RowKit Go.Proofs.YtmaeodkdddbhoaaDoorW.PrintWords Go.Proofs.YtmaeodkdddbhoaaDoorW.PrintLast Go.Proofs.YtmaeodkdddbhoaaDoorW.PrintMore
attribute [local go_sem] max2_int min2_int max_two min_two max_three min_three max_four min_four   -- for this text's walks alone
set_option linter.unusedVariables false
set_option linter.unusedSimpArgs false

/-! ### cringlelaw02_UtfRepairs: function 6 -/
def cringlelaw02_UtfRepairs.f (k : Nat) (a0 : ByteArray) : Option (Bool) := (cringlelaw02_long.f a0).bind fun t228 => (if t228 = true then ((cringlelaw02_alive.f k).bind fun t229 => (some t229)) else ((utf_Repair.f k a0).bind fun t230 => ((utf_IsText.f t230).bind fun t231 => (if t231 = true then ((utf_Repair.f k t230).bind fun t232 => (if t232.toList = t230.toList then ((utf_IsText.f a0).bind fun t233 => (if ((t230.toList == a0.toList) == t233) = true then (if (t230.size : Int) ≤ (wrap64 (3 * (a0.size : Int))) then ((cringlelaw02_alive.f k).bind fun t234 => (some t234)) else (some false)) else (some false))) else (some false))) else (some false)))))
theorem cringlelaw02_UtfRepairs.mono : ∀ a0 k, LeO (cringlelaw02_UtfRepairs.f k a0) (cringlelaw02_UtfRepairs.f (k + 1) a0) := by
  intro a0 k
  unfold cringlelaw02_UtfRepairs.f
  repeat' first
      | (with_reducible exact cringlelaw02_alive.mono _)
      | (with_reducible exact utf_Repair.mono _ _)
      | (with_reducible exact LeO.refl _)
      | (with_reducible exact LeO.none _)
      | (with_reducible refine LeO.ite ?_ ?_)
      | (with_reducible refine LeO.bind ?_ (fun _ => ?_))
      | exact cringlelaw02_alive.mono _
      | exact utf_Repair.mono _ _
      | exact LeO.none _
      | refine LeO.ite ?_ ?_
      | refine LeO.bind ?_ (fun _ => ?_)
set_option maxHeartbeats 8000000 in
set_option maxRecDepth 100000 in
theorem cringlelaw02_UtfRepairs.calls (k : Nat) (a0 : ByteArray) (r : Bool) (w : World) (h : cringlelaw02_UtfRepairs.f k a0 = some r) (htrue : Aside0 (r = true)) (TT_ : Aside0 (Lib.Utf8Tabs 0 1 w) := by first | exact TT_ | exact ⟨Go.Proofs.Utf8Tabs_below TT_.out (by repeat (first | (with_reducible first | exact HB.out | apply below_alloc | apply pw_below_drewN | apply below_drew1) | exact HB.out | (refine below_set ?_ ?_; rotate_left; exact (Aside0.out (by assumption)))))⟩) :
    Calls Tryd.prog 6 #[.string a0] w fun e w' => e = .returned (.bool r) ∧ Below w.heap.size w w' := by
  have HB := Aside0.mk (Below.refl w.heap.size w)
  have H : ((cringlelaw02_long.f a0).bind fun t228 => (if t228 = true then ((cringlelaw02_alive.f k).bind fun t229 => (some t229)) else ((utf_Repair.f k a0).bind fun t230 => ((utf_IsText.f t230).bind fun t231 => (if t231 = true then ((utf_Repair.f k t230).bind fun t232 => (if t232.toList = t230.toList then ((utf_IsText.f a0).bind fun t233 => (if ((t230.toList == a0.toList) == t233) = true then (if (t230.size : Int) ≤ (wrap64 (3 * (a0.size : Int))) then ((cringlelaw02_alive.f k).bind fun t234 => (some t234)) else (some false)) else (some false))) else (some false))) else (some false)))))) = some r := h
  clear h
  replace H := Option.bind_eq_some_iff.mp H
  obtain ⟨t228, A20, H⟩ := H
  replace H : (if t228 = true then ((cringlelaw02_alive.f k).bind fun t229 => (some t229)) else ((utf_Repair.f k a0).bind fun t230 => ((utf_IsText.f t230).bind fun t231 => (if t231 = true then ((utf_Repair.f k t230).bind fun t232 => (if t232.toList = t230.toList then ((utf_IsText.f a0).bind fun t233 => (if ((t230.toList == a0.toList) == t233) = true then (if (t230.size : Int) ≤ (wrap64 (3 * (a0.size : Int))) then ((cringlelaw02_alive.f k).bind fun t234 => (some t234)) else (some false)) else (some false))) else (some false))) else (some false))))) = some r := H
  have A2 := Aside0.mk A20
  clear A20
  by_cases c3 : t228 = true
  · subst c3
    have H1 : ((cringlelaw02_alive.f k).bind fun t229 => (some t229)) = some r := by rw [if_pos rfl] at H; exact H
    clear H
    have H := H1
    clear H1
    replace H := Option.bind_eq_some_iff.mp H
    obtain ⟨t229, A40, H⟩ := H
    replace H : (some t229) = some r := H
    have A4 := Aside0.mk A40
    clear A40
    obtain rfl := Option.some.inj H
    go_enter Tryd.func6, Tryd.ntmps6
    go_wp2_with (first | ((with_reducible refine gate_callee (f := 16) rfl ?_); refine goesL_ (some 5) rfl rfl Tryd.func16 (by kernel_rfl) rfl #[.string a0] rfl (by (try simp only [List.map_toArray, List.map_cons, List.map_nil]); first | done | rfl | (simp only [List.length_drop, List.length_take]; rfl)) ?_; (with_reducible refine (cringlelaw02_long.calls a0 true _ A2.out).mono ?_); rintro e w' ⟨rfl, ⟨nd, rfl⟩⟩; refine ⟨_, rfl, ?_⟩) | ((with_reducible refine gate_callee (f := 10) rfl ?_); refine goesL_ (some 6) rfl rfl Tryd.func10 (by kernel_rfl) rfl #[] rfl (by (try simp only [List.map_toArray, List.map_cons, List.map_nil]); first | done | rfl | (simp only [List.length_drop, List.length_take]; rfl)) ?_; (with_reducible refine (cringlelaw02_alive.calls k  t229 _ A4.out).mono ?_); rintro e w5 ⟨rfl, hb⟩; refine ⟨_, rfl, ?_⟩; have n0_ := Aside0.mk (below_step (by repeat (first | (with_reducible first | exact HB.out | apply below_alloc | apply pw_below_drewN | apply below_drew1) | exact HB.out)) hb); clear HB; have HB := n0_; clear n0_; (try clear hb); (try clear hb2); (try clear hk); (try clear hi)))
    go_ret
    exact ⟨by first | rfl | (simp [errW_none, errW_some] <;> rfl) | (simp [*, errW_none, errW_some] <;> rfl), by repeat (first | (with_reducible first | exact HB.out | apply below_alloc | apply pw_below_drewN | apply below_drew1) | exact HB.out)⟩
  · replace c3 := Bool.eq_false_iff.mpr c3
    subst c3
    have H1 : ((utf_Repair.f k a0).bind fun t230 => ((utf_IsText.f t230).bind fun t231 => (if t231 = true then ((utf_Repair.f k t230).bind fun t232 => (if t232.toList = t230.toList then ((utf_IsText.f a0).bind fun t233 => (if ((t230.toList == a0.toList) == t233) = true then (if (t230.size : Int) ≤ (wrap64 (3 * (a0.size : Int))) then ((cringlelaw02_alive.f k).bind fun t234 => (some t234)) else (some false)) else (some false))) else (some false))) else (some false)))) = some r := by rw [if_neg (show ¬ (false = true) by decide)] at H; exact H
    clear H
    have H := H1
    clear H1
    replace H := Option.bind_eq_some_iff.mp H
    obtain ⟨t230, A60, H⟩ := H
    replace H : ((utf_IsText.f t230).bind fun t231 => (if t231 = true then ((utf_Repair.f k t230).bind fun t232 => (if t232.toList = t230.toList then ((utf_IsText.f a0).bind fun t233 => (if ((t230.toList == a0.toList) == t233) = true then (if (t230.size : Int) ≤ (wrap64 (3 * (a0.size : Int))) then ((cringlelaw02_alive.f k).bind fun t234 => (some t234)) else (some false)) else (some false))) else (some false))) else (some false))) = some r := H
    have A6 := Aside0.mk A60
    clear A60
    replace H := Option.bind_eq_some_iff.mp H
    obtain ⟨t231, A70, H⟩ := H
    replace H : (if t231 = true then ((utf_Repair.f k t230).bind fun t232 => (if t232.toList = t230.toList then ((utf_IsText.f a0).bind fun t233 => (if ((t230.toList == a0.toList) == t233) = true then (if (t230.size : Int) ≤ (wrap64 (3 * (a0.size : Int))) then ((cringlelaw02_alive.f k).bind fun t234 => (some t234)) else (some false)) else (some false))) else (some false))) else (some false)) = some r := H
    have A7 := Aside0.mk A70
    clear A70
    by_cases c8 : t231 = true
    · subst c8
      have H1 : ((utf_Repair.f k t230).bind fun t232 => (if t232.toList = t230.toList then ((utf_IsText.f a0).bind fun t233 => (if ((t230.toList == a0.toList) == t233) = true then (if (t230.size : Int) ≤ (wrap64 (3 * (a0.size : Int))) then ((cringlelaw02_alive.f k).bind fun t234 => (some t234)) else (some false)) else (some false))) else (some false))) = some r := by rw [if_pos rfl] at H; exact H
      clear H
      have H := H1
      clear H1
      replace H := Option.bind_eq_some_iff.mp H
      obtain ⟨t232, A90, H⟩ := H
      replace H : (if t232.toList = t230.toList then ((utf_IsText.f a0).bind fun t233 => (if ((t230.toList == a0.toList) == t233) = true then (if (t230.size : Int) ≤ (wrap64 (3 * (a0.size : Int))) then ((cringlelaw02_alive.f k).bind fun t234 => (some t234)) else (some false)) else (some false))) else (some false)) = some r := H
      have A9 := Aside0.mk A90
      clear A90
      by_cases c10 : t232.toList = t230.toList
      · rw [if_pos c10] at H
        have c10b0 : (t232.toList == t230.toList) = true := beq_iff_eq.mpr c10
        have c10b1 : (t232.toList != t230.toList) = false := bne_eq_false_iff_eq.mpr c10
        clear c10
        replace H := Option.bind_eq_some_iff.mp H
        obtain ⟨t233, A110, H⟩ := H
        replace H : (if ((t230.toList == a0.toList) == t233) = true then (if (t230.size : Int) ≤ (wrap64 (3 * (a0.size : Int))) then ((cringlelaw02_alive.f k).bind fun t234 => (some t234)) else (some false)) else (some false)) = some r := H
        have A11 := Aside0.mk A110
        clear A110
        by_cases c12 : ((t230.toList == a0.toList) == t233) = true
        · rw [if_pos c12] at H
          have c12b0 : ((t230.toList == a0.toList) == t233) = true := c12
          (try (have c12b1 : decide ((t230.toList == a0.toList) = t233) = true := by simpa using c12))
          (try (have c12b2 : ((t230.toList == a0.toList) == t233) = true := by simpa using c12))
          clear c12
          by_cases c13 : (t230.size : Int) ≤ (wrap64 (3 * (a0.size : Int)))
          · rw [if_pos c13] at H
            have c13b0 : decide ((t230.size : Int) ≤ (wrap64 (3 * (a0.size : Int)))) = true := decide_eq_true c13
            clear c13
            replace H := Option.bind_eq_some_iff.mp H
            obtain ⟨t234, A140, H⟩ := H
            replace H : (some t234) = some r := H
            have A14 := Aside0.mk A140
            clear A140
            obtain rfl := Option.some.inj H
            go_enter Tryd.func6, Tryd.ntmps6
            go_wp2_with (first | ((with_reducible refine gate_callee (f := 16) rfl ?_); refine goesL_ (some 5) rfl rfl Tryd.func16 (by kernel_rfl) rfl #[.string a0] rfl (by (try simp only [List.map_toArray, List.map_cons, List.map_nil]); first | done | rfl | (simp only [List.length_drop, List.length_take]; rfl)) ?_; (with_reducible refine (cringlelaw02_long.calls a0 false _ A2.out).mono ?_); rintro e w' ⟨rfl, ⟨nd, rfl⟩⟩; refine ⟨_, rfl, ?_⟩) | ((with_reducible refine gate_callee (f := 17) rfl ?_); refine goesL_ (some 8) rfl rfl Tryd.func17 (by kernel_rfl) rfl #[.string a0] rfl (by (try simp only [List.map_toArray, List.map_cons, List.map_nil]); first | done | rfl | (simp only [List.length_drop, List.length_take]; rfl)) ?_; (with_reducible refine (utf_Repair.calls k a0 t230 _ A6.out).mono ?_); rintro e w15 ⟨rfl, hb⟩; refine ⟨_, rfl, ?_⟩; have n0_ := Aside0.mk (below_step (by repeat (first | (with_reducible first | exact HB.out | apply below_alloc | apply pw_below_drewN | apply below_drew1) | exact HB.out)) hb); clear HB; have HB := n0_; clear n0_; (try clear hb); (try clear hb2); (try clear hk); (try clear hi)) | ((with_reducible refine gate_callee (f := 18) rfl ?_); refine goesL_ (some 10) rfl rfl Tryd.func18 (by kernel_rfl) rfl #[.string t230] rfl (by (try simp only [List.map_toArray, List.map_cons, List.map_nil]); first | done | rfl | (simp only [List.length_drop, List.length_take]; rfl)) ?_; (with_reducible refine (utf_IsText.calls t230 true _ A7.out).mono ?_); rintro e w16 ⟨rfl, hb⟩; refine ⟨_, rfl, ?_⟩; have n0_ := Aside0.mk (below_step (by repeat (first | (with_reducible first | exact HB.out | apply below_alloc | apply pw_below_drewN | apply below_drew1) | exact HB.out)) hb); clear HB; have HB := n0_; clear n0_; (try clear hb); (try clear hb2); (try clear hk); (try clear hi)) | (go_at_call 17; (with_reducible refine (utf_Repair.calls k t230 t232 _ A9.out).mono ?_); rintro e w17 ⟨rfl, hb⟩; have n0_ := Aside0.mk (below_step (by repeat (first | (with_reducible first | exact HB.out | apply below_alloc | apply pw_below_drewN | apply below_drew1) | exact HB.out)) hb); clear HB; have HB := n0_; clear n0_; (try clear hb); (try clear hb2); (try clear hk); (try clear hi)) | (go_at_call 18; (with_reducible refine (utf_IsText.calls a0 t233 _ A11.out).mono ?_); rintro e w18 ⟨rfl, hb⟩; have n0_ := Aside0.mk (below_step (by repeat (first | (with_reducible first | exact HB.out | apply below_alloc | apply pw_below_drewN | apply below_drew1) | exact HB.out)) hb); clear HB; have HB := n0_; clear n0_; (try clear hb); (try clear hb2); (try clear hk); (try clear hi)) | (go_at_call 10; (with_reducible refine (cringlelaw02_alive.calls k  t234 _ A14.out).mono ?_); rintro e w19 ⟨rfl, hb⟩; have n0_ := Aside0.mk (below_step (by repeat (first | (with_reducible first | exact HB.out | apply below_alloc | apply pw_below_drewN | apply below_drew1) | exact HB.out)) hb); clear HB; have HB := n0_; clear n0_; (try clear hb); (try clear hb2); (try clear hk); (try clear hi)))
            go_ret
            exact ⟨by first | rfl | (simp [errW_none, errW_some] <;> rfl) | (simp [*, errW_none, errW_some] <;> rfl), by repeat (first | (with_reducible first | exact HB.out | apply below_alloc | apply pw_below_drewN | apply below_drew1) | exact HB.out)⟩
          · rw [if_neg c13] at H
            have c13b0 : decide ((t230.size : Int) ≤ (wrap64 (3 * (a0.size : Int)))) = false := decide_eq_false c13
            clear c13
            exact absurd (Option.some.inj H) (by rw [htrue.out]; decide)
        · rw [if_neg c12] at H
          have c12b0 : ((t230.toList == a0.toList) == t233) = false := by simpa using c12
          (try (have c12b1 : decide ((t230.toList == a0.toList) = t233) = false := by simpa using c12))
          (try (have c12b2 : ((t230.toList == a0.toList) == t233) = false := by simpa using c12))
          (try (have c12b3 : ¬ ((t230.toList == a0.toList) = t233) := by simpa using c12))
          clear c12
          exact absurd (Option.some.inj H) (by rw [htrue.out]; decide)
      · rw [if_neg c10] at H
        have c10b0 : (t232.toList == t230.toList) = false := beq_eq_false_iff_ne.mpr c10
        have c10b1 : (t232.toList != t230.toList) = true := bne_iff_ne.mpr c10
        exact absurd (Option.some.inj H) (by rw [htrue.out]; decide)
    · replace c8 := Bool.eq_false_iff.mpr c8
      subst c8
      have H1 : (some false) = some r := by rw [if_neg (show ¬ (false = true) by decide)] at H; exact H
      clear H
      have H := H1
      clear H1
      exact absurd (Option.some.inj H) (by rw [htrue.out]; decide)

/-! ### cringlelaw02_UtfSigns: function 7 -/
def cringlelaw02_UtfSigns.f (k : Nat) (a0 : ByteArray) : Option (Bool) := (cringlelaw02_long.f a0).bind fun t235 => (if t235 = true then ((cringlelaw02_alive.f k).bind fun t236 => (some t236)) else ((utf_Signs.f a0).bind fun bt237 => (if bt237.2 = 0 then ((utf_Put.f k ([] : List Int) bt237.1).bind fun t241 => (if (strOfNums t241).toList = a0.toList then ((cringlelaw02_alive.f k).bind fun t244 => (some t244)) else (some false))) else (if (bt237.1.length : Int) = 0 then ((utf_IsText.f a0).bind fun t245 => (if t245 = true then (some false) else ((cringlelaw02_alive.f k).bind fun t246 => (some t246)))) else (some false)))))
theorem cringlelaw02_UtfSigns.mono : ∀ a0 k, LeO (cringlelaw02_UtfSigns.f k a0) (cringlelaw02_UtfSigns.f (k + 1) a0) := by
  intro a0 k
  unfold cringlelaw02_UtfSigns.f
  repeat' first
      | (with_reducible exact cringlelaw02_alive.mono _)
      | (with_reducible exact utf_Put.mono _ _ _)
      | (with_reducible exact LeO.refl _)
      | (with_reducible exact LeO.none _)
      | (with_reducible refine LeO.ite ?_ ?_)
      | (with_reducible refine LeO.bind ?_ (fun _ => ?_))
      | exact cringlelaw02_alive.mono _
      | exact utf_Put.mono _ _ _
      | exact LeO.none _
      | refine LeO.ite ?_ ?_
      | refine LeO.bind ?_ (fun _ => ?_)
set_option maxHeartbeats 8000000 in
set_option maxRecDepth 100000 in
theorem cringlelaw02_UtfSigns.calls (k : Nat) (a0 : ByteArray) (r : Bool) (w : World) (h : cringlelaw02_UtfSigns.f k a0 = some r) (htrue : Aside0 (r = true)) (TT_ : Aside0 (Lib.Utf8Tabs 0 1 w) := by first | exact TT_ | exact ⟨Go.Proofs.Utf8Tabs_below TT_.out (by repeat (first | (with_reducible first | exact HB.out | apply below_alloc | apply pw_below_drewN | apply below_drew1) | exact HB.out | (refine below_set ?_ ?_; rotate_left; exact (Aside0.out (by assumption)))))⟩) :
    Calls Tryd.prog 7 #[.string a0] w fun e w' => e = .returned (.bool r) ∧ Below w.heap.size w w' := by
  have HB := Aside0.mk (Below.refl w.heap.size w)
  have H : ((cringlelaw02_long.f a0).bind fun t235 => (if t235 = true then ((cringlelaw02_alive.f k).bind fun t236 => (some t236)) else ((utf_Signs.f a0).bind fun bt237 => (if bt237.2 = 0 then ((utf_Put.f k ([] : List Int) bt237.1).bind fun t241 => (if (strOfNums t241).toList = a0.toList then ((cringlelaw02_alive.f k).bind fun t244 => (some t244)) else (some false))) else (if (bt237.1.length : Int) = 0 then ((utf_IsText.f a0).bind fun t245 => (if t245 = true then (some false) else ((cringlelaw02_alive.f k).bind fun t246 => (some t246)))) else (some false)))))) = some r := h
  clear h
  replace H := Option.bind_eq_some_iff.mp H
  obtain ⟨t235, A20, H⟩ := H
  replace H : (if t235 = true then ((cringlelaw02_alive.f k).bind fun t236 => (some t236)) else ((utf_Signs.f a0).bind fun bt237 => (if bt237.2 = 0 then ((utf_Put.f k ([] : List Int) bt237.1).bind fun t241 => (if (strOfNums t241).toList = a0.toList then ((cringlelaw02_alive.f k).bind fun t244 => (some t244)) else (some false))) else (if (bt237.1.length : Int) = 0 then ((utf_IsText.f a0).bind fun t245 => (if t245 = true then (some false) else ((cringlelaw02_alive.f k).bind fun t246 => (some t246)))) else (some false))))) = some r := H
  have A2 := Aside0.mk A20
  clear A20
  by_cases c3 : t235 = true
  · subst c3
    have H1 : ((cringlelaw02_alive.f k).bind fun t236 => (some t236)) = some r := by rw [if_pos rfl] at H; exact H
    clear H
    have H := H1
    clear H1
    replace H := Option.bind_eq_some_iff.mp H
    obtain ⟨t236, A40, H⟩ := H
    replace H : (some t236) = some r := H
    have A4 := Aside0.mk A40
    clear A40
    obtain rfl := Option.some.inj H
    go_enter Tryd.func7, Tryd.ntmps7
    go_wp2_with (first | ((with_reducible refine gate_callee (f := 16) rfl ?_); refine goesL_ (some 6) rfl rfl Tryd.func16 (by kernel_rfl) rfl #[.string a0] rfl (by (try simp only [List.map_toArray, List.map_cons, List.map_nil]); first | done | rfl | (simp only [List.length_drop, List.length_take]; rfl)) ?_; (with_reducible refine (cringlelaw02_long.calls a0 true _ A2.out).mono ?_); rintro e w' ⟨rfl, ⟨nd, rfl⟩⟩; refine ⟨_, rfl, ?_⟩) | ((with_reducible refine gate_callee (f := 10) rfl ?_); refine goesL_ (some 7) rfl rfl Tryd.func10 (by kernel_rfl) rfl #[] rfl (by (try simp only [List.map_toArray, List.map_cons, List.map_nil]); first | done | rfl | (simp only [List.length_drop, List.length_take]; rfl)) ?_; (with_reducible refine (cringlelaw02_alive.calls k  t236 _ A4.out).mono ?_); rintro e w5 ⟨rfl, hb⟩; refine ⟨_, rfl, ?_⟩; have n0_ := Aside0.mk (below_step (by repeat (first | (with_reducible first | exact HB.out | apply below_alloc | apply pw_below_drewN | apply below_drew1) | exact HB.out)) hb); clear HB; have HB := n0_; clear n0_; (try clear hb); (try clear hb2); (try clear hk); (try clear hi)))
    go_ret
    exact ⟨by first | rfl | (simp [errW_none, errW_some] <;> rfl) | (simp [*, errW_none, errW_some] <;> rfl), by repeat (first | (with_reducible first | exact HB.out | apply below_alloc | apply pw_below_drewN | apply below_drew1) | exact HB.out)⟩
  · replace c3 := Bool.eq_false_iff.mpr c3
    subst c3
    have H1 : ((utf_Signs.f a0).bind fun bt237 => (if bt237.2 = 0 then ((utf_Put.f k ([] : List Int) bt237.1).bind fun t241 => (if (strOfNums t241).toList = a0.toList then ((cringlelaw02_alive.f k).bind fun t244 => (some t244)) else (some false))) else (if (bt237.1.length : Int) = 0 then ((utf_IsText.f a0).bind fun t245 => (if t245 = true then (some false) else ((cringlelaw02_alive.f k).bind fun t246 => (some t246)))) else (some false)))) = some r := by rw [if_neg (show ¬ (false = true) by decide)] at H; exact H
    clear H
    have H := H1
    clear H1
    replace H := Option.bind_eq_some_iff.mp H
    obtain ⟨⟨t237, t238⟩, A60, H⟩ := H
    replace H : (if t238 = 0 then ((utf_Put.f k ([] : List Int) t237).bind fun t241 => (if (strOfNums t241).toList = a0.toList then ((cringlelaw02_alive.f k).bind fun t244 => (some t244)) else (some false))) else (if (t237.length : Int) = 0 then ((utf_IsText.f a0).bind fun t245 => (if t245 = true then (some false) else ((cringlelaw02_alive.f k).bind fun t246 => (some t246)))) else (some false))) = some r := H
    have A6 := Aside0.mk A60
    clear A60
    by_cases c7 : t238 = 0
    · rw [if_pos c7] at H
      have c7b0 : (t238 == 0) = true := beq_iff_eq.mpr c7
      have c7b1 : (t238 != 0) = false := bne_eq_false_iff_eq.mpr c7
      clear c7
      replace H := Option.bind_eq_some_iff.mp H
      obtain ⟨t241, A80, H⟩ := H
      replace H : (if (strOfNums t241).toList = a0.toList then ((cringlelaw02_alive.f k).bind fun t244 => (some t244)) else (some false)) = some r := H
      have A8 := Aside0.mk A80
      clear A80
      by_cases c9 : (strOfNums t241).toList = a0.toList
      · rw [if_pos c9] at H
        have c9b0 : ((strOfNums t241).toList == a0.toList) = true := beq_iff_eq.mpr c9
        have c9b1 : ((strOfNums t241).toList != a0.toList) = false := bne_eq_false_iff_eq.mpr c9
        clear c9
        replace H := Option.bind_eq_some_iff.mp H
        obtain ⟨t244, A100, H⟩ := H
        replace H : (some t244) = some r := H
        have A10 := Aside0.mk A100
        clear A100
        obtain rfl := Option.some.inj H
        go_enter Tryd.func7, Tryd.ntmps7
        go_wp2_with (first | ((with_reducible refine gate_callee (f := 16) rfl ?_); refine goesL_ (some 6) rfl rfl Tryd.func16 (by kernel_rfl) rfl #[.string a0] rfl (by (try simp only [List.map_toArray, List.map_cons, List.map_nil]); first | done | rfl | (simp only [List.length_drop, List.length_take]; rfl)) ?_; (with_reducible refine (cringlelaw02_long.calls a0 false _ A2.out).mono ?_); rintro e w' ⟨rfl, ⟨nd, rfl⟩⟩; refine ⟨_, rfl, ?_⟩) | ((with_reducible refine gate_callee (f := 19) rfl ?_); refine goesL_ (some 10) rfl rfl Tryd.func19 (by kernel_rfl) rfl #[.string a0] rfl (by (try simp only [List.map_toArray, List.map_cons, List.map_nil]); first | done | rfl | (simp only [List.length_drop, List.length_take]; rfl)) ?_; (with_reducible refine (utf_Signs.calls a0 t237 t238 _ A6.out).mono ?_); rintro e w11 ⟨v239, rfl, ho0, hb⟩; refine ⟨_, rfl, ?_⟩; have n0_ := Aside0.mk (Kd.R_lower ho0 (below_size (by repeat (first | (with_reducible first | exact HB.out | apply below_alloc | apply pw_below_drewN | apply below_drew1) | exact HB.out)))); have n1_ := Aside0.mk (below_step (by repeat (first | (with_reducible first | exact HB.out | apply below_alloc | apply pw_below_drewN | apply below_drew1) | exact HB.out)) hb); clear HB; have HO240 := n0_; have HB := n1_; clear n0_ n1_; (try clear hb); (try clear hb2); (try clear hk); (try clear hi); (try clear ho0); obtain ⟨Ao12, co12, eo12⟩ := Kd.R_slice HO240.out; subst eo12) | ((with_reducible refine gate_callee (f := 11) rfl ?_); refine goesL_ (some 27) rfl rfl Tryd.func11 (by kernel_rfl) rfl #[.slice none 0 0, .slice Ao12 t237.length co12] rfl (by (try simp only [List.map_toArray, List.map_cons, List.map_nil]); first | done | rfl | (simp only [List.length_drop, List.length_take]; rfl)) ?_; (refine (utf_Put.calls k _ _ ([] : List Int) _ _ t237 t241 _ ?side1 ?side2 ?side3 ?side4 A8.out).mono ?_); (case side1 => exact Kd.C_nil _ _); (case side2 => exact Nat.le_refl _); (case side3 => repeat (first | exact (Kd.R_reads' HO240.out).2.2 | (with_reducible refine Kd.C_alloc ?_ _) | (with_reducible refine Kd.C_drewN ?_ _) | (with_reducible refine Kd.C_drew ?_))); (case side4 => exact (Kd.R_reads' HO240.out).2.1); rintro e w13 ⟨v242, rfl, ho0, hb⟩; refine ⟨_, rfl, ?_⟩; have n0_ := Aside0.mk (Kd.R_below (by (with_reducible repeat (first | apply Kd.R_alloc | apply Kd.R_drewN | apply Kd.R_drew)); exact HO240.out) hb); have n1_ := Aside0.mk (Kd.R_lower ho0 (below_size (by repeat (first | (with_reducible first | exact HB.out | apply below_alloc | apply pw_below_drewN | apply below_drew1) | exact HB.out)))); have n2_ := Aside0.mk (below_step (by repeat (first | (with_reducible first | exact HB.out | apply below_alloc | apply pw_below_drewN | apply below_drew1) | exact HB.out)) hb); clear HO240; clear HB; have HO240 := n0_; have HO243 := n1_; have HB := n2_; clear n0_ n1_ n2_; (try clear hb); (try clear hb2); (try clear hk); (try clear hi); (try clear ho0); have hcv14 := own_string (P := Tryd.prog) Tryd.underlying22 Tryd.underlying5 Tryd.underlying9 (Kd.own_of_R HO243.out)) | (go_at_call 10; (with_reducible refine (cringlelaw02_alive.calls k  t244 _ A10.out).mono ?_); rintro e w15 ⟨rfl, hb⟩; have n0_ := Aside0.mk (Kd.R_below (by (with_reducible repeat (first | apply Kd.R_alloc | apply Kd.R_drewN | apply Kd.R_drew)); exact HO240.out) hb); have n1_ := Aside0.mk (Kd.R_below (by (with_reducible repeat (first | apply Kd.R_alloc | apply Kd.R_drewN | apply Kd.R_drew)); exact HO243.out) hb); have n2_ := Aside0.mk (below_step (by repeat (first | (with_reducible first | exact HB.out | apply below_alloc | apply pw_below_drewN | apply below_drew1) | exact HB.out)) hb); clear HO240; clear HO243; clear HB; have HO240 := n0_; have HO243 := n1_; have HB := n2_; clear n0_ n1_ n2_; (try clear hb); (try clear hb2); (try clear hk); (try clear hi)))
        go_ret
        exact ⟨by first | rfl | (simp [errW_none, errW_some] <;> rfl) | (simp [*, errW_none, errW_some] <;> rfl), by repeat (first | (with_reducible first | exact HB.out | apply below_alloc | apply pw_below_drewN | apply below_drew1) | exact HB.out)⟩
      · rw [if_neg c9] at H
        have c9b0 : ((strOfNums t241).toList == a0.toList) = false := beq_eq_false_iff_ne.mpr c9
        have c9b1 : ((strOfNums t241).toList != a0.toList) = true := bne_iff_ne.mpr c9
        exact absurd (Option.some.inj H) (by rw [htrue.out]; decide)
    · rw [if_neg c7] at H
      have c7b0 : (t238 == 0) = false := beq_eq_false_iff_ne.mpr c7
      have c7b1 : (t238 != 0) = true := bne_iff_ne.mpr c7
      by_cases c16 : (t237.length : Int) = 0
      · rw [if_pos c16] at H
        have c16b0 : ((t237.length : Int) == 0) = true := beq_iff_eq.mpr c16
        have c16b1 : ((t237.length : Int) != 0) = false := bne_eq_false_iff_eq.mpr c16
        clear c16
        replace H := Option.bind_eq_some_iff.mp H
        obtain ⟨t245, A170, H⟩ := H
        replace H : (if t245 = true then (some false) else ((cringlelaw02_alive.f k).bind fun t246 => (some t246))) = some r := H
        have A17 := Aside0.mk A170
        clear A170
        by_cases c18 : t245 = true
        · subst c18
          have H1 : (some false) = some r := by rw [if_pos rfl] at H; exact H
          clear H
          have H := H1
          clear H1
          exact absurd (Option.some.inj H) (by rw [htrue.out]; decide)
        · replace c18 := Bool.eq_false_iff.mpr c18
          subst c18
          have H1 : ((cringlelaw02_alive.f k).bind fun t246 => (some t246)) = some r := by rw [if_neg (show ¬ (false = true) by decide)] at H; exact H
          clear H
          have H := H1
          clear H1
          replace H := Option.bind_eq_some_iff.mp H
          obtain ⟨t246, A190, H⟩ := H
          replace H : (some t246) = some r := H
          have A19 := Aside0.mk A190
          clear A190
          obtain rfl := Option.some.inj H
          go_enter Tryd.func7, Tryd.ntmps7
          go_wp2_with (first | ((with_reducible refine gate_callee (f := 16) rfl ?_); refine goesL_ (some 6) rfl rfl Tryd.func16 (by kernel_rfl) rfl #[.string a0] rfl (by (try simp only [List.map_toArray, List.map_cons, List.map_nil]); first | done | rfl | (simp only [List.length_drop, List.length_take]; rfl)) ?_; (with_reducible refine (cringlelaw02_long.calls a0 false _ A2.out).mono ?_); rintro e w' ⟨rfl, ⟨nd, rfl⟩⟩; refine ⟨_, rfl, ?_⟩) | ((with_reducible refine gate_callee (f := 19) rfl ?_); refine goesL_ (some 10) rfl rfl Tryd.func19 (by kernel_rfl) rfl #[.string a0] rfl (by (try simp only [List.map_toArray, List.map_cons, List.map_nil]); first | done | rfl | (simp only [List.length_drop, List.length_take]; rfl)) ?_; (with_reducible refine (utf_Signs.calls a0 t237 t238 _ A6.out).mono ?_); rintro e w20 ⟨v239, rfl, ho0, hb⟩; refine ⟨_, rfl, ?_⟩; have n0_ := Aside0.mk (Kd.R_lower ho0 (below_size (by repeat (first | (with_reducible first | exact HB.out | apply below_alloc | apply pw_below_drewN | apply below_drew1) | exact HB.out)))); have n1_ := Aside0.mk (below_step (by repeat (first | (with_reducible first | exact HB.out | apply below_alloc | apply pw_below_drewN | apply below_drew1) | exact HB.out)) hb); clear HB; have HO240 := n0_; have HB := n1_; clear n0_ n1_; (try clear hb); (try clear hb2); (try clear hk); (try clear hi); (try clear ho0); obtain ⟨Ao21, co21, eo21⟩ := Kd.R_slice HO240.out; subst eo21) | (go_at_call 18; (with_reducible refine (utf_IsText.calls a0 false _ A17.out).mono ?_); rintro e w22 ⟨rfl, hb⟩; have n0_ := Aside0.mk (Kd.R_below (by (with_reducible repeat (first | apply Kd.R_alloc | apply Kd.R_drewN | apply Kd.R_drew)); exact HO240.out) hb); have n1_ := Aside0.mk (below_step (by repeat (first | (with_reducible first | exact HB.out | apply below_alloc | apply pw_below_drewN | apply below_drew1) | exact HB.out)) hb); clear HO240; clear HB; have HO240 := n0_; have HB := n1_; clear n0_ n1_; (try clear hb); (try clear hb2); (try clear hk); (try clear hi)) | (go_at_call 10; (with_reducible refine (cringlelaw02_alive.calls k  t246 _ A19.out).mono ?_); rintro e w23 ⟨rfl, hb⟩; have n0_ := Aside0.mk (Kd.R_below (by (with_reducible repeat (first | apply Kd.R_alloc | apply Kd.R_drewN | apply Kd.R_drew)); exact HO240.out) hb); have n1_ := Aside0.mk (below_step (by repeat (first | (with_reducible first | exact HB.out | apply below_alloc | apply pw_below_drewN | apply below_drew1) | exact HB.out)) hb); clear HO240; clear HB; have HO240 := n0_; have HB := n1_; clear n0_ n1_; (try clear hb); (try clear hb2); (try clear hk); (try clear hi)))
          go_ret
          exact ⟨by first | rfl | (simp [errW_none, errW_some] <;> rfl) | (simp [*, errW_none, errW_some] <;> rfl), by repeat (first | (with_reducible first | exact HB.out | apply below_alloc | apply pw_below_drewN | apply below_drew1) | exact HB.out)⟩
      · rw [if_neg c16] at H
        have c16b0 : ((t237.length : Int) == 0) = false := beq_eq_false_iff_ne.mpr c16
        have c16b1 : ((t237.length : Int) != 0) = true := bne_iff_ne.mpr c16
        have c16b2 : ¬ (t237 = []) := fun h_ => c16 (by rw [h_]; rfl)
        exact absurd (Option.some.inj H) (by rw [htrue.out]; decide)

/-! ### cringlelaw02_UtfCuts: function 8 -/
def cringlelaw02_UtfCuts.j0 : Nat → ByteArray → Int → ByteArray → Bool → Option (Bool)
  | 0, _, _, _, _ => none
  | k + 1, x0, x1, x5, x32 => if x32 = true then (some false) else ((utf_IsText.f x0).bind fun t250 => (if t250 = true then ((utf_IsText.f x5).bind fun t251 => (if t251 = true then (if (x5.size : Int) = (x0.size : Int) then ((utf_Cut.f k x5 (wrap64 (x1))).bind fun t252 => (if t252.toList = x5.toList then ((cringlelaw02_alive.f k).bind fun t253 => (some t253)) else (some false))) else (if (x5.size : Int) > (wrap64 ((wrap64 (x1)) - 4)) then ((utf_Cut.f k x5 (wrap64 (x1))).bind fun t254 => (if t254.toList = x5.toList then ((cringlelaw02_alive.f k).bind fun t255 => (some t255)) else (some false))) else (some false))) else (some false))) else (if (x5.size : Int) = (x0.size : Int) then ((utf_Cut.f k x5 (wrap64 (x1))).bind fun t256 => (if t256.toList = x5.toList then ((cringlelaw02_alive.f k).bind fun t257 => (some t257)) else (some false))) else (if (x5.size : Int) > (wrap64 ((wrap64 (x1)) - 4)) then ((utf_Cut.f k x5 (wrap64 (x1))).bind fun t258 => (if t258.toList = x5.toList then ((cringlelaw02_alive.f k).bind fun t259 => (some t259)) else (some false))) else (some false)))))
def cringlelaw02_UtfCuts.f (k : Nat) (a0 : ByteArray) (a1 : Int) : Option (Bool) := (cringlelaw02_long.f a0).bind fun t247 => (if t247 = true then ((cringlelaw02_alive.f k).bind fun t248 => (some t248)) else ((utf_Cut.f k a0 (wrap64 (a1))).bind fun t249 => (if (t249.size : Int) > (wrap64 (a1)) then (cringlelaw02_UtfCuts.j0 k a0 a1 t249 true) else (if (t249.size : Int) > (a0.size : Int) then (cringlelaw02_UtfCuts.j0 k a0 a1 t249 true) else (if 0 ≤ (t249.size : Int) then (if (t249.size : Int) ≤ (a0.size : Int) then (cringlelaw02_UtfCuts.j0 k a0 a1 t249 ((a0.extract 0 ((t249.size : Int) : Int).toNat).toList != t249.toList)) else (none)) else (none))))))
theorem cringlelaw02_UtfCuts.mono_l : ∀ k, (∀ y0 y1 y2 y3, LeO (cringlelaw02_UtfCuts.j0 k y0 y1 y2 y3) (cringlelaw02_UtfCuts.j0 (k + 1) y0 y1 y2 y3))
  | 0 => fun _ _ _ _ r h => by simp [cringlelaw02_UtfCuts.j0] at h
  | k + 1 => by
    have ih0 := cringlelaw02_UtfCuts.mono_l k
    · intro y0 y1 y2 y3
      unfold cringlelaw02_UtfCuts.j0
      repeat' first
      | (with_reducible exact ih0 _ _ _ _)
      | (with_reducible exact cringlelaw02_alive.mono _)
      | (with_reducible exact utf_Cut.mono _ _ _)
      | (with_reducible exact LeO.refl _)
      | (with_reducible exact LeO.none _)
      | (with_reducible refine LeO.ite ?_ ?_)
      | (with_reducible refine LeO.bind ?_ (fun _ => ?_))
      | exact ih0 _ _ _ _
      | exact cringlelaw02_alive.mono _
      | exact utf_Cut.mono _ _ _
      | exact LeO.none _
      | refine LeO.ite ?_ ?_
      | refine LeO.bind ?_ (fun _ => ?_)
theorem cringlelaw02_UtfCuts.mono : ∀ a0 a1 k, LeO (cringlelaw02_UtfCuts.f k a0 a1) (cringlelaw02_UtfCuts.f (k + 1) a0 a1) := by
  intro a0 a1 k
  have ih0 := cringlelaw02_UtfCuts.mono_l k
  unfold cringlelaw02_UtfCuts.f
  repeat' first
      | (with_reducible exact ih0 _ _ _ _)
      | (with_reducible exact cringlelaw02_alive.mono _)
      | (with_reducible exact utf_Cut.mono _ _ _)
      | (with_reducible exact LeO.refl _)
      | (with_reducible exact LeO.none _)
      | (with_reducible refine LeO.ite ?_ ?_)
      | (with_reducible refine LeO.bind ?_ (fun _ => ?_))
      | exact ih0 _ _ _ _
      | exact cringlelaw02_alive.mono _
      | exact utf_Cut.mono _ _ _
      | exact LeO.none _
      | refine LeO.ite ?_ ?_
      | refine LeO.bind ?_ (fun _ => ?_)
set_option maxHeartbeats 8000000 in
set_option maxRecDepth 100000 in
theorem cringlelaw02_UtfCuts.calls (k : Nat) (a0 : ByteArray) (a1 : Int) (r : Bool) (w : World) (h : cringlelaw02_UtfCuts.f k a0 a1 = some r) (htrue : Aside0 (r = true)) (TT_ : Aside0 (Lib.Utf8Tabs 0 1 w) := by first | exact TT_ | exact ⟨Go.Proofs.Utf8Tabs_below TT_.out (by repeat (first | (with_reducible first | exact HB.out | apply below_alloc | apply pw_below_drewN | apply below_drew1) | exact HB.out | (refine below_set ?_ ?_; rotate_left; exact (Aside0.out (by assumption)))))⟩) :
    Calls Tryd.prog 8 #[.string a0, .int .u16 a1] w fun e w' => e = .returned (.bool r) ∧ Below w.heap.size w w' := by
  have HB := Aside0.mk (Below.refl w.heap.size w)
  have H : ((cringlelaw02_long.f a0).bind fun t247 => (if t247 = true then ((cringlelaw02_alive.f k).bind fun t248 => (some t248)) else ((utf_Cut.f k a0 (wrap64 (a1))).bind fun t249 => (if (t249.size : Int) > (wrap64 (a1)) then (cringlelaw02_UtfCuts.j0 k a0 a1 t249 true) else (if (t249.size : Int) > (a0.size : Int) then (cringlelaw02_UtfCuts.j0 k a0 a1 t249 true) else (if 0 ≤ (t249.size : Int) then (if (t249.size : Int) ≤ (a0.size : Int) then (cringlelaw02_UtfCuts.j0 k a0 a1 t249 ((a0.extract 0 ((t249.size : Int) : Int).toNat).toList != t249.toList)) else (none)) else (none))))))) = some r := h
  clear h
  replace H := Option.bind_eq_some_iff.mp H
  obtain ⟨t247, A30, H⟩ := H
  replace H : (if t247 = true then ((cringlelaw02_alive.f k).bind fun t248 => (some t248)) else ((utf_Cut.f k a0 (wrap64 (a1))).bind fun t249 => (if (t249.size : Int) > (wrap64 (a1)) then (cringlelaw02_UtfCuts.j0 k a0 a1 t249 true) else (if (t249.size : Int) > (a0.size : Int) then (cringlelaw02_UtfCuts.j0 k a0 a1 t249 true) else (if 0 ≤ (t249.size : Int) then (if (t249.size : Int) ≤ (a0.size : Int) then (cringlelaw02_UtfCuts.j0 k a0 a1 t249 ((a0.extract 0 ((t249.size : Int) : Int).toNat).toList != t249.toList)) else (none)) else (none)))))) = some r := H
  have A3 := Aside0.mk A30
  clear A30
  by_cases c4 : t247 = true
  · subst c4
    have H1 : ((cringlelaw02_alive.f k).bind fun t248 => (some t248)) = some r := by rw [if_pos rfl] at H; exact H
    clear H
    have H := H1
    clear H1
    replace H := Option.bind_eq_some_iff.mp H
    obtain ⟨t248, A50, H⟩ := H
    replace H : (some t248) = some r := H
    have A5 := Aside0.mk A50
    clear A50
    obtain rfl := Option.some.inj H
    go_enter Tryd.func8, Tryd.ntmps8
    go_wp2_with (first | ((with_reducible refine gate_callee (f := 16) rfl ?_); refine goesL_ (some 7) rfl rfl Tryd.func16 (by kernel_rfl) rfl #[.string a0] rfl (by (try simp only [List.map_toArray, List.map_cons, List.map_nil]); first | done | rfl | (simp only [List.length_drop, List.length_take]; rfl)) ?_; (with_reducible refine (cringlelaw02_long.calls a0 true _ A3.out).mono ?_); rintro e w' ⟨rfl, ⟨nd, rfl⟩⟩; refine ⟨_, rfl, ?_⟩) | ((with_reducible refine gate_callee (f := 10) rfl ?_); refine goesL_ (some 8) rfl rfl Tryd.func10 (by kernel_rfl) rfl #[] rfl (by (try simp only [List.map_toArray, List.map_cons, List.map_nil]); first | done | rfl | (simp only [List.length_drop, List.length_take]; rfl)) ?_; (with_reducible refine (cringlelaw02_alive.calls k  t248 _ A5.out).mono ?_); rintro e w6 ⟨rfl, hb⟩; refine ⟨_, rfl, ?_⟩; have n0_ := Aside0.mk (below_step (by repeat (first | (with_reducible first | exact HB.out | apply below_alloc | apply pw_below_drewN | apply below_drew1) | exact HB.out)) hb); clear HB; have HB := n0_; clear n0_; (try clear hb); (try clear hb2); (try clear hk); (try clear hi)))
    go_ret
    exact ⟨by first | rfl | (simp [errW_none, errW_some] <;> rfl) | (simp [*, errW_none, errW_some] <;> rfl), by repeat (first | (with_reducible first | exact HB.out | apply below_alloc | apply pw_below_drewN | apply below_drew1) | exact HB.out)⟩
  · replace c4 := Bool.eq_false_iff.mpr c4
    subst c4
    have H1 : ((utf_Cut.f k a0 (wrap64 (a1))).bind fun t249 => (if (t249.size : Int) > (wrap64 (a1)) then (cringlelaw02_UtfCuts.j0 k a0 a1 t249 true) else (if (t249.size : Int) > (a0.size : Int) then (cringlelaw02_UtfCuts.j0 k a0 a1 t249 true) else (if 0 ≤ (t249.size : Int) then (if (t249.size : Int) ≤ (a0.size : Int) then (cringlelaw02_UtfCuts.j0 k a0 a1 t249 ((a0.extract 0 ((t249.size : Int) : Int).toNat).toList != t249.toList)) else (none)) else (none))))) = some r := by rw [if_neg (show ¬ (false = true) by decide)] at H; exact H
    clear H
    have H := H1
    clear H1
    replace H := Option.bind_eq_some_iff.mp H
    obtain ⟨t249, A70, H⟩ := H
    replace H : (if (t249.size : Int) > (wrap64 (a1)) then (cringlelaw02_UtfCuts.j0 k a0 a1 t249 true) else (if (t249.size : Int) > (a0.size : Int) then (cringlelaw02_UtfCuts.j0 k a0 a1 t249 true) else (if 0 ≤ (t249.size : Int) then (if (t249.size : Int) ≤ (a0.size : Int) then (cringlelaw02_UtfCuts.j0 k a0 a1 t249 ((a0.extract 0 ((t249.size : Int) : Int).toNat).toList != t249.toList)) else (none)) else (none)))) = some r := H
    have A7 := Aside0.mk A70
    clear A70
    have HC8 := Aside0.mk H
    clear H
    go_enter Tryd.func8, Tryd.ntmps8
    go_upto_region 4 with (first | ((with_reducible refine gate_callee (f := 16) rfl ?_); refine goesL_ (some 7) rfl rfl Tryd.func16 (by kernel_rfl) rfl #[.string a0] rfl (by (try simp only [List.map_toArray, List.map_cons, List.map_nil]); first | done | rfl | (simp only [List.length_drop, List.length_take]; rfl)) ?_; (with_reducible refine (cringlelaw02_long.calls a0 false _ A3.out).mono ?_); rintro e w' ⟨rfl, ⟨nd, rfl⟩⟩; refine ⟨_, rfl, ?_⟩) | ((with_reducible refine gate_callee (f := 20) rfl ?_); refine goesL_ (some 12) rfl rfl Tryd.func20 (by kernel_rfl) rfl #[.string a0, .int .i64 (wrap64 (a1))] rfl (by (try simp only [List.map_toArray, List.map_cons, List.map_nil]); first | done | rfl | (simp only [List.length_drop, List.length_take]; rfl)) ?_; (with_reducible refine (utf_Cut.calls k a0 (wrap64 (a1)) t249 _ A7.out).mono ?_); rintro e w9 ⟨rfl, hb⟩; refine ⟨_, rfl, ?_⟩; have n0_ := Aside0.mk (below_step (by repeat (first | (with_reducible first | exact HB.out | apply below_alloc | apply pw_below_drewN | apply below_drew1) | exact HB.out)) hb); clear HB; have HB := n0_; clear n0_; (try clear hb); (try clear hb2); (try clear hk); (try clear hi)))
    (try simp only [Act.put, List.setIfInBounds_toArray, List.set_cons_zero, List.set_cons_succ])
    go_cut [32] (fun v32 wc => ∃ (kq : Nat) (x32_7 : Bool), v32 = .bool x32_7 ∧ Aside0 (cringlelaw02_UtfCuts.j0 kq a0 a1 t249 x32_7 = some r) ∧ Aside0 (kq ≤ k) ∧ Aside0 (Below w.heap.size w wc))
    case first =>
      have H := HC8.out
      clear HC8
      by_cases c10 : (t249.size : Int) > (wrap64 (a1))
      · rw [if_pos c10] at H
        have c10b0 : decide ((wrap64 (a1)) < (t249.size : Int)) = true := decide_eq_true c10
        clear c10
        (first | rw [c10b0] | (simp only [i64_w, i32_w]; rw [c10b0]) | skip)
        have H' := Aside0.mk H
        clear H
        go_wp2
        go_meet
        case rel => exact ⟨_, (true), (by first | rfl | (simp; done) | (simp [*]; done)), H', ⟨by first | omega | exact Nat.le_refl _⟩, ⟨by repeat (first | (with_reducible first | exact HB.out | apply below_alloc | apply pw_below_drewN | apply below_drew1) | exact HB.out)⟩⟩
      · rw [if_neg c10] at H
        have c10b0 : decide ((wrap64 (a1)) < (t249.size : Int)) = false := decide_eq_false c10
        clear c10
        (first | rw [c10b0] | (simp only [i64_w, i32_w]; rw [c10b0]) | skip)
        by_cases c11 : (t249.size : Int) > (a0.size : Int)
        · rw [if_pos c11] at H
          have c11b0 : decide ((a0.size : Int) < (t249.size : Int)) = true := decide_eq_true c11
          have c11b1 : decide (a0.size < t249.size) = true := decide_eq_true (Int.ofNat_lt.mp c11)
          clear c11
          have H' := Aside0.mk H
          clear H
          go_wp2
          go_meet
          case rel => exact ⟨_, (true), (by first | rfl | (simp; done) | (simp [*]; done)), H', ⟨by first | omega | exact Nat.le_refl _⟩, ⟨by repeat (first | (with_reducible first | exact HB.out | apply below_alloc | apply pw_below_drewN | apply below_drew1) | exact HB.out)⟩⟩
        · rw [if_neg c11] at H
          have c11b0 : decide ((a0.size : Int) < (t249.size : Int)) = false := decide_eq_false c11
          have c11b1 : decide (a0.size < t249.size) = false := decide_eq_false (fun h => c11 (Int.ofNat_lt.mpr h))
          clear c11
          by_cases c12 : 0 ≤ (t249.size : Int)
          · rw [if_pos c12] at H
            have c12b0 := eq_true c12
            have c12b1 : decide (0 ≤ (t249.size : Int)) = true := decide_eq_true c12
            clear c12
            by_cases c13 : (t249.size : Int) ≤ (a0.size : Int)
            · rw [if_pos c13] at H
              have c13b0 := eq_true c13
              have c13b1 : decide ((t249.size : Int) ≤ (a0.size : Int)) = true := decide_eq_true c13
              clear c13
              have H' := Aside0.mk H
              clear H
              go_wp2
              go_meet
              case rel => exact ⟨_, (((a0.extract 0 ((t249.size : Int) : Int).toNat).toList != t249.toList)), (by first | rfl | (simp; done) | (simp [*]; done)), H', ⟨by first | omega | exact Nat.le_refl _⟩, ⟨by repeat (first | (with_reducible first | exact HB.out | apply below_alloc | apply pw_below_drewN | apply below_drew1) | exact HB.out)⟩⟩
            · rw [if_neg c13] at H
              exact absurd H (by simp)
          · rw [if_neg c12] at H
            exact absurd H (by simp)
    case rest =>
      clear HC8
      try clear c1
      try clear c2
      try clear p2
      try clear c4
      try clear p6
      try clear c8
      try clear c10
      try clear c10b0
      try clear c11
      try clear c11b0
      try clear c11b1
      try clear c12
      try clear c12b0
      try clear c12b1
      try clear c13
      try clear c13b0
      try clear c13b1
      obtain ⟨kq, x32_7, rfl, HA, HJ7, HB⟩ := hcut
      cases kq with
      | zero => exact absurd HA.out (by simp [cringlelaw02_UtfCuts.j0])
      | succ kj7 =>
        have H := HA.out
        clear HA
        simp only [cringlelaw02_UtfCuts.j0] at H
        by_cases c14 : x32_7 = true
        · subst c14
          have H1 : (some false) = some r := by rw [if_pos rfl] at H; exact H
          clear H
          have H := H1
          clear H1
          exact absurd (Option.some.inj H) (by rw [htrue.out]; decide)
        · replace c14 := Bool.eq_false_iff.mpr c14
          subst c14
          have H1 : ((utf_IsText.f a0).bind fun t250 => (if t250 = true then ((utf_IsText.f t249).bind fun t251 => (if t251 = true then (if (t249.size : Int) = (a0.size : Int) then ((utf_Cut.f kj7 t249 (wrap64 (a1))).bind fun t252 => (if t252.toList = t249.toList then ((cringlelaw02_alive.f kj7).bind fun t253 => (some t253)) else (some false))) else (if (t249.size : Int) > (wrap64 ((wrap64 (a1)) - 4)) then ((utf_Cut.f kj7 t249 (wrap64 (a1))).bind fun t254 => (if t254.toList = t249.toList then ((cringlelaw02_alive.f kj7).bind fun t255 => (some t255)) else (some false))) else (some false))) else (some false))) else (if (t249.size : Int) = (a0.size : Int) then ((utf_Cut.f kj7 t249 (wrap64 (a1))).bind fun t256 => (if t256.toList = t249.toList then ((cringlelaw02_alive.f kj7).bind fun t257 => (some t257)) else (some false))) else (if (t249.size : Int) > (wrap64 ((wrap64 (a1)) - 4)) then ((utf_Cut.f kj7 t249 (wrap64 (a1))).bind fun t258 => (if t258.toList = t249.toList then ((cringlelaw02_alive.f kj7).bind fun t259 => (some t259)) else (some false))) else (some false))))) = some r := by rw [if_neg (show ¬ (false = true) by decide)] at H; exact H
          clear H
          have H := H1
          clear H1
          replace H := Option.bind_eq_some_iff.mp H
          obtain ⟨t250, A150, H⟩ := H
          replace H : (if t250 = true then ((utf_IsText.f t249).bind fun t251 => (if t251 = true then (if (t249.size : Int) = (a0.size : Int) then ((utf_Cut.f kj7 t249 (wrap64 (a1))).bind fun t252 => (if t252.toList = t249.toList then ((cringlelaw02_alive.f kj7).bind fun t253 => (some t253)) else (some false))) else (if (t249.size : Int) > (wrap64 ((wrap64 (a1)) - 4)) then ((utf_Cut.f kj7 t249 (wrap64 (a1))).bind fun t254 => (if t254.toList = t249.toList then ((cringlelaw02_alive.f kj7).bind fun t255 => (some t255)) else (some false))) else (some false))) else (some false))) else (if (t249.size : Int) = (a0.size : Int) then ((utf_Cut.f kj7 t249 (wrap64 (a1))).bind fun t256 => (if t256.toList = t249.toList then ((cringlelaw02_alive.f kj7).bind fun t257 => (some t257)) else (some false))) else (if (t249.size : Int) > (wrap64 ((wrap64 (a1)) - 4)) then ((utf_Cut.f kj7 t249 (wrap64 (a1))).bind fun t258 => (if t258.toList = t249.toList then ((cringlelaw02_alive.f kj7).bind fun t259 => (some t259)) else (some false))) else (some false)))) = some r := H
          have A15 := Aside0.mk A150
          clear A150
          by_cases c16 : t250 = true
          · subst c16
            have H1 : ((utf_IsText.f t249).bind fun t251 => (if t251 = true then (if (t249.size : Int) = (a0.size : Int) then ((utf_Cut.f kj7 t249 (wrap64 (a1))).bind fun t252 => (if t252.toList = t249.toList then ((cringlelaw02_alive.f kj7).bind fun t253 => (some t253)) else (some false))) else (if (t249.size : Int) > (wrap64 ((wrap64 (a1)) - 4)) then ((utf_Cut.f kj7 t249 (wrap64 (a1))).bind fun t254 => (if t254.toList = t249.toList then ((cringlelaw02_alive.f kj7).bind fun t255 => (some t255)) else (some false))) else (some false))) else (some false))) = some r := by rw [if_pos rfl] at H; exact H
            clear H
            have H := H1
            clear H1
            replace H := Option.bind_eq_some_iff.mp H
            obtain ⟨t251, A170, H⟩ := H
            replace H : (if t251 = true then (if (t249.size : Int) = (a0.size : Int) then ((utf_Cut.f kj7 t249 (wrap64 (a1))).bind fun t252 => (if t252.toList = t249.toList then ((cringlelaw02_alive.f kj7).bind fun t253 => (some t253)) else (some false))) else (if (t249.size : Int) > (wrap64 ((wrap64 (a1)) - 4)) then ((utf_Cut.f kj7 t249 (wrap64 (a1))).bind fun t254 => (if t254.toList = t249.toList then ((cringlelaw02_alive.f kj7).bind fun t255 => (some t255)) else (some false))) else (some false))) else (some false)) = some r := H
            have A17 := Aside0.mk A170
            clear A170
            by_cases c18 : t251 = true
            · subst c18
              have H1 : (if (t249.size : Int) = (a0.size : Int) then ((utf_Cut.f kj7 t249 (wrap64 (a1))).bind fun t252 => (if t252.toList = t249.toList then ((cringlelaw02_alive.f kj7).bind fun t253 => (some t253)) else (some false))) else (if (t249.size : Int) > (wrap64 ((wrap64 (a1)) - 4)) then ((utf_Cut.f kj7 t249 (wrap64 (a1))).bind fun t254 => (if t254.toList = t249.toList then ((cringlelaw02_alive.f kj7).bind fun t255 => (some t255)) else (some false))) else (some false))) = some r := by rw [if_pos rfl] at H; exact H
              clear H
              have H := H1
              clear H1
              by_cases c19 : (t249.size : Int) = (a0.size : Int)
              · rw [if_pos c19] at H
                have c19b0 : ((t249.size : Int) == (a0.size : Int)) = true := beq_iff_eq.mpr c19
                have c19b1 : ((t249.size : Int) != (a0.size : Int)) = false := bne_eq_false_iff_eq.mpr c19
                have c19b2 : (t249.size == a0.size) = true := by first | simpa using c19 | (simp at c19 ⊢; omega)
                clear c19
                replace H := Option.bind_eq_some_iff.mp H
                obtain ⟨t252, A200, H⟩ := H
                replace H : (if t252.toList = t249.toList then ((cringlelaw02_alive.f kj7).bind fun t253 => (some t253)) else (some false)) = some r := H
                have A20 := Aside0.mk A200
                clear A200
                by_cases c21 : t252.toList = t249.toList
                · rw [if_pos c21] at H
                  have c21b0 : (t252.toList == t249.toList) = true := beq_iff_eq.mpr c21
                  have c21b1 : (t252.toList != t249.toList) = false := bne_eq_false_iff_eq.mpr c21
                  clear c21
                  replace H := Option.bind_eq_some_iff.mp H
                  obtain ⟨t253, A220, H⟩ := H
                  replace H : (some t253) = some r := H
                  have A22 := Aside0.mk A220
                  clear A220
                  obtain rfl := Option.some.inj H
                  go_wp2_with (first | ((with_reducible refine gate_callee (f := 18) rfl ?_); refine goesL_ (some 34) rfl rfl Tryd.func18 (by kernel_rfl) rfl #[.string a0] rfl (by (try simp only [List.map_toArray, List.map_cons, List.map_nil]); first | done | rfl | (simp only [List.length_drop, List.length_take]; rfl)) ?_; (with_reducible refine (utf_IsText.calls a0 true _ A15.out).mono ?_); rintro e w23 ⟨rfl, hb⟩; refine ⟨_, rfl, ?_⟩; have n0_ := Aside0.mk (below_step (by repeat (first | (with_reducible first | exact HB.out | apply below_alloc | apply pw_below_drewN | apply below_drew1) | exact HB.out)) hb); clear HB; have HB := n0_; clear n0_; (try clear hb); (try clear hb2); (try clear hk); (try clear hi)) | (go_at_call 18; (with_reducible refine (utf_IsText.calls t249 true _ A17.out).mono ?_); rintro e w24 ⟨rfl, hb⟩; have n0_ := Aside0.mk (below_step (by repeat (first | (with_reducible first | exact HB.out | apply below_alloc | apply pw_below_drewN | apply below_drew1) | exact HB.out)) hb); clear HB; have HB := n0_; clear n0_; (try clear hb); (try clear hb2); (try clear hk); (try clear hi)) | (go_at_call 20; (with_reducible refine (utf_Cut.calls kj7 t249 (wrap64 (a1)) t252 _ A20.out).mono ?_); rintro e w25 ⟨rfl, hb⟩; have n0_ := Aside0.mk (below_step (by repeat (first | (with_reducible first | exact HB.out | apply below_alloc | apply pw_below_drewN | apply below_drew1) | exact HB.out)) hb); clear HB; have HB := n0_; clear n0_; (try clear hb); (try clear hb2); (try clear hk); (try clear hi)) | (go_at_call 10; (with_reducible refine (cringlelaw02_alive.calls kj7  t253 _ A22.out).mono ?_); rintro e w26 ⟨rfl, hb⟩; have n0_ := Aside0.mk (below_step (by repeat (first | (with_reducible first | exact HB.out | apply below_alloc | apply pw_below_drewN | apply below_drew1) | exact HB.out)) hb); clear HB; have HB := n0_; clear n0_; (try clear hb); (try clear hb2); (try clear hk); (try clear hi)))
                  go_ret
                  exact ⟨by first | rfl | (simp [errW_none, errW_some] <;> rfl) | (simp [*, errW_none, errW_some] <;> rfl), by repeat (first | (with_reducible first | exact HB.out | apply below_alloc | apply pw_below_drewN | apply below_drew1) | exact HB.out)⟩
                · rw [if_neg c21] at H
                  have c21b0 : (t252.toList == t249.toList) = false := beq_eq_false_iff_ne.mpr c21
                  have c21b1 : (t252.toList != t249.toList) = true := bne_iff_ne.mpr c21
                  exact absurd (Option.some.inj H) (by rw [htrue.out]; decide)
              · rw [if_neg c19] at H
                have c19b0 : ((t249.size : Int) == (a0.size : Int)) = false := beq_eq_false_iff_ne.mpr c19
                have c19b1 : ((t249.size : Int) != (a0.size : Int)) = true := bne_iff_ne.mpr c19
                have c19b2 : (t249.size == a0.size) = false := by first | simpa using c19 | (simp at c19 ⊢; omega)
                by_cases c27 : (t249.size : Int) > (wrap64 ((wrap64 (a1)) - 4))
                · rw [if_pos c27] at H
                  have c27b0 : decide ((wrap64 ((wrap64 (a1)) - 4)) < (t249.size : Int)) = true := decide_eq_true c27
                  clear c27
                  replace H := Option.bind_eq_some_iff.mp H
                  obtain ⟨t254, A280, H⟩ := H
                  replace H : (if t254.toList = t249.toList then ((cringlelaw02_alive.f kj7).bind fun t255 => (some t255)) else (some false)) = some r := H
                  have A28 := Aside0.mk A280
                  clear A280
                  by_cases c29 : t254.toList = t249.toList
                  · rw [if_pos c29] at H
                    have c29b0 : (t254.toList == t249.toList) = true := beq_iff_eq.mpr c29
                    have c29b1 : (t254.toList != t249.toList) = false := bne_eq_false_iff_eq.mpr c29
                    clear c29
                    replace H := Option.bind_eq_some_iff.mp H
                    obtain ⟨t255, A300, H⟩ := H
                    replace H : (some t255) = some r := H
                    have A30 := Aside0.mk A300
                    clear A300
                    obtain rfl := Option.some.inj H
                    go_wp2_with (first | ((with_reducible refine gate_callee (f := 18) rfl ?_); refine goesL_ (some 34) rfl rfl Tryd.func18 (by kernel_rfl) rfl #[.string a0] rfl (by (try simp only [List.map_toArray, List.map_cons, List.map_nil]); first | done | rfl | (simp only [List.length_drop, List.length_take]; rfl)) ?_; (with_reducible refine (utf_IsText.calls a0 true _ A15.out).mono ?_); rintro e w31 ⟨rfl, hb⟩; refine ⟨_, rfl, ?_⟩; have n0_ := Aside0.mk (below_step (by repeat (first | (with_reducible first | exact HB.out | apply below_alloc | apply pw_below_drewN | apply below_drew1) | exact HB.out)) hb); clear HB; have HB := n0_; clear n0_; (try clear hb); (try clear hb2); (try clear hk); (try clear hi)) | (go_at_call 18; (with_reducible refine (utf_IsText.calls t249 true _ A17.out).mono ?_); rintro e w32 ⟨rfl, hb⟩; have n0_ := Aside0.mk (below_step (by repeat (first | (with_reducible first | exact HB.out | apply below_alloc | apply pw_below_drewN | apply below_drew1) | exact HB.out)) hb); clear HB; have HB := n0_; clear n0_; (try clear hb); (try clear hb2); (try clear hk); (try clear hi)) | (go_at_call 20; (with_reducible refine (utf_Cut.calls kj7 t249 (wrap64 (a1)) t254 _ A28.out).mono ?_); rintro e w33 ⟨rfl, hb⟩; have n0_ := Aside0.mk (below_step (by repeat (first | (with_reducible first | exact HB.out | apply below_alloc | apply pw_below_drewN | apply below_drew1) | exact HB.out)) hb); clear HB; have HB := n0_; clear n0_; (try clear hb); (try clear hb2); (try clear hk); (try clear hi)) | (go_at_call 10; (with_reducible refine (cringlelaw02_alive.calls kj7  t255 _ A30.out).mono ?_); rintro e w34 ⟨rfl, hb⟩; have n0_ := Aside0.mk (below_step (by repeat (first | (with_reducible first | exact HB.out | apply below_alloc | apply pw_below_drewN | apply below_drew1) | exact HB.out)) hb); clear HB; have HB := n0_; clear n0_; (try clear hb); (try clear hb2); (try clear hk); (try clear hi)))
                    go_ret
                    exact ⟨by first | rfl | (simp [errW_none, errW_some] <;> rfl) | (simp [*, errW_none, errW_some] <;> rfl), by repeat (first | (with_reducible first | exact HB.out | apply below_alloc | apply pw_below_drewN | apply below_drew1) | exact HB.out)⟩
                  · rw [if_neg c29] at H
                    have c29b0 : (t254.toList == t249.toList) = false := beq_eq_false_iff_ne.mpr c29
                    have c29b1 : (t254.toList != t249.toList) = true := bne_iff_ne.mpr c29
                    exact absurd (Option.some.inj H) (by rw [htrue.out]; decide)
                · rw [if_neg c27] at H
                  have c27b0 : decide ((wrap64 ((wrap64 (a1)) - 4)) < (t249.size : Int)) = false := decide_eq_false c27
                  clear c27
                  exact absurd (Option.some.inj H) (by rw [htrue.out]; decide)
            · replace c18 := Bool.eq_false_iff.mpr c18
              subst c18
              have H1 : (some false) = some r := by rw [if_neg (show ¬ (false = true) by decide)] at H; exact H
              clear H
              have H := H1
              clear H1
              exact absurd (Option.some.inj H) (by rw [htrue.out]; decide)
          · replace c16 := Bool.eq_false_iff.mpr c16
            subst c16
            have H1 : (if (t249.size : Int) = (a0.size : Int) then ((utf_Cut.f kj7 t249 (wrap64 (a1))).bind fun t256 => (if t256.toList = t249.toList then ((cringlelaw02_alive.f kj7).bind fun t257 => (some t257)) else (some false))) else (if (t249.size : Int) > (wrap64 ((wrap64 (a1)) - 4)) then ((utf_Cut.f kj7 t249 (wrap64 (a1))).bind fun t258 => (if t258.toList = t249.toList then ((cringlelaw02_alive.f kj7).bind fun t259 => (some t259)) else (some false))) else (some false))) = some r := by rw [if_neg (show ¬ (false = true) by decide)] at H; exact H
            clear H
            have H := H1
            clear H1
            by_cases c35 : (t249.size : Int) = (a0.size : Int)
            · rw [if_pos c35] at H
              have c35b0 : ((t249.size : Int) == (a0.size : Int)) = true := beq_iff_eq.mpr c35
              have c35b1 : ((t249.size : Int) != (a0.size : Int)) = false := bne_eq_false_iff_eq.mpr c35
              have c35b2 : (t249.size == a0.size) = true := by first | simpa using c35 | (simp at c35 ⊢; omega)
              clear c35
              replace H := Option.bind_eq_some_iff.mp H
              obtain ⟨t256, A360, H⟩ := H
              replace H : (if t256.toList = t249.toList then ((cringlelaw02_alive.f kj7).bind fun t257 => (some t257)) else (some false)) = some r := H
              have A36 := Aside0.mk A360
              clear A360
              by_cases c37 : t256.toList = t249.toList
              · rw [if_pos c37] at H
                have c37b0 : (t256.toList == t249.toList) = true := beq_iff_eq.mpr c37
                have c37b1 : (t256.toList != t249.toList) = false := bne_eq_false_iff_eq.mpr c37
                clear c37
                replace H := Option.bind_eq_some_iff.mp H
                obtain ⟨t257, A380, H⟩ := H
                replace H : (some t257) = some r := H
                have A38 := Aside0.mk A380
                clear A380
                obtain rfl := Option.some.inj H
                go_wp2_with (first | ((with_reducible refine gate_callee (f := 18) rfl ?_); refine goesL_ (some 34) rfl rfl Tryd.func18 (by kernel_rfl) rfl #[.string a0] rfl (by (try simp only [List.map_toArray, List.map_cons, List.map_nil]); first | done | rfl | (simp only [List.length_drop, List.length_take]; rfl)) ?_; (with_reducible refine (utf_IsText.calls a0 false _ A15.out).mono ?_); rintro e w39 ⟨rfl, hb⟩; refine ⟨_, rfl, ?_⟩; have n0_ := Aside0.mk (below_step (by repeat (first | (with_reducible first | exact HB.out | apply below_alloc | apply pw_below_drewN | apply below_drew1) | exact HB.out)) hb); clear HB; have HB := n0_; clear n0_; (try clear hb); (try clear hb2); (try clear hk); (try clear hi)) | (go_at_call 20; (with_reducible refine (utf_Cut.calls kj7 t249 (wrap64 (a1)) t256 _ A36.out).mono ?_); rintro e w40 ⟨rfl, hb⟩; have n0_ := Aside0.mk (below_step (by repeat (first | (with_reducible first | exact HB.out | apply below_alloc | apply pw_below_drewN | apply below_drew1) | exact HB.out)) hb); clear HB; have HB := n0_; clear n0_; (try clear hb); (try clear hb2); (try clear hk); (try clear hi)) | (go_at_call 10; (with_reducible refine (cringlelaw02_alive.calls kj7  t257 _ A38.out).mono ?_); rintro e w41 ⟨rfl, hb⟩; have n0_ := Aside0.mk (below_step (by repeat (first | (with_reducible first | exact HB.out | apply below_alloc | apply pw_below_drewN | apply below_drew1) | exact HB.out)) hb); clear HB; have HB := n0_; clear n0_; (try clear hb); (try clear hb2); (try clear hk); (try clear hi)))
                go_ret
                exact ⟨by first | rfl | (simp [errW_none, errW_some] <;> rfl) | (simp [*, errW_none, errW_some] <;> rfl), by repeat (first | (with_reducible first | exact HB.out | apply below_alloc | apply pw_below_drewN | apply below_drew1) | exact HB.out)⟩
              · rw [if_neg c37] at H
                have c37b0 : (t256.toList == t249.toList) = false := beq_eq_false_iff_ne.mpr c37
                have c37b1 : (t256.toList != t249.toList) = true := bne_iff_ne.mpr c37
                exact absurd (Option.some.inj H) (by rw [htrue.out]; decide)
            · rw [if_neg c35] at H
              have c35b0 : ((t249.size : Int) == (a0.size : Int)) = false := beq_eq_false_iff_ne.mpr c35
              have c35b1 : ((t249.size : Int) != (a0.size : Int)) = true := bne_iff_ne.mpr c35
              have c35b2 : (t249.size == a0.size) = false := by first | simpa using c35 | (simp at c35 ⊢; omega)
              by_cases c42 : (t249.size : Int) > (wrap64 ((wrap64 (a1)) - 4))
              · rw [if_pos c42] at H
                have c42b0 : decide ((wrap64 ((wrap64 (a1)) - 4)) < (t249.size : Int)) = true := decide_eq_true c42
                clear c42
                replace H := Option.bind_eq_some_iff.mp H
                obtain ⟨t258, A430, H⟩ := H
                replace H : (if t258.toList = t249.toList then ((cringlelaw02_alive.f kj7).bind fun t259 => (some t259)) else (some false)) = some r := H
                have A43 := Aside0.mk A430
                clear A430
                by_cases c44 : t258.toList = t249.toList
                · rw [if_pos c44] at H
                  have c44b0 : (t258.toList == t249.toList) = true := beq_iff_eq.mpr c44
                  have c44b1 : (t258.toList != t249.toList) = false := bne_eq_false_iff_eq.mpr c44
                  clear c44
                  replace H := Option.bind_eq_some_iff.mp H
                  obtain ⟨t259, A450, H⟩ := H
                  replace H : (some t259) = some r := H
                  have A45 := Aside0.mk A450
                  clear A450
                  obtain rfl := Option.some.inj H
                  go_wp2_with (first | ((with_reducible refine gate_callee (f := 18) rfl ?_); refine goesL_ (some 34) rfl rfl Tryd.func18 (by kernel_rfl) rfl #[.string a0] rfl (by (try simp only [List.map_toArray, List.map_cons, List.map_nil]); first | done | rfl | (simp only [List.length_drop, List.length_take]; rfl)) ?_; (with_reducible refine (utf_IsText.calls a0 false _ A15.out).mono ?_); rintro e w46 ⟨rfl, hb⟩; refine ⟨_, rfl, ?_⟩; have n0_ := Aside0.mk (below_step (by repeat (first | (with_reducible first | exact HB.out | apply below_alloc | apply pw_below_drewN | apply below_drew1) | exact HB.out)) hb); clear HB; have HB := n0_; clear n0_; (try clear hb); (try clear hb2); (try clear hk); (try clear hi)) | (go_at_call 20; (with_reducible refine (utf_Cut.calls kj7 t249 (wrap64 (a1)) t258 _ A43.out).mono ?_); rintro e w47 ⟨rfl, hb⟩; have n0_ := Aside0.mk (below_step (by repeat (first | (with_reducible first | exact HB.out | apply below_alloc | apply pw_below_drewN | apply below_drew1) | exact HB.out)) hb); clear HB; have HB := n0_; clear n0_; (try clear hb); (try clear hb2); (try clear hk); (try clear hi)) | (go_at_call 10; (with_reducible refine (cringlelaw02_alive.calls kj7  t259 _ A45.out).mono ?_); rintro e w48 ⟨rfl, hb⟩; have n0_ := Aside0.mk (below_step (by repeat (first | (with_reducible first | exact HB.out | apply below_alloc | apply pw_below_drewN | apply below_drew1) | exact HB.out)) hb); clear HB; have HB := n0_; clear n0_; (try clear hb); (try clear hb2); (try clear hk); (try clear hi)))
                  go_ret
                  exact ⟨by first | rfl | (simp [errW_none, errW_some] <;> rfl) | (simp [*, errW_none, errW_some] <;> rfl), by repeat (first | (with_reducible first | exact HB.out | apply below_alloc | apply pw_below_drewN | apply below_drew1) | exact HB.out)⟩
                · rw [if_neg c44] at H
                  have c44b0 : (t258.toList == t249.toList) = false := beq_eq_false_iff_ne.mpr c44
                  have c44b1 : (t258.toList != t249.toList) = true := bne_iff_ne.mpr c44
                  exact absurd (Option.some.inj H) (by rw [htrue.out]; decide)
              · rw [if_neg c42] at H
                have c42b0 : decide ((wrap64 ((wrap64 (a1)) - 4)) < (t249.size : Int)) = false := decide_eq_false c42
                clear c42
                exact absurd (Option.some.inj H) (by rw [htrue.out]; decide)

end Go.Proofs.YtmaeodkdddbhoaaDoor.Q
