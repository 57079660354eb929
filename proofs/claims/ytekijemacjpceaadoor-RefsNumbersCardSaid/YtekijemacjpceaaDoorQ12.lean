-- printed by a program of the session's own; Lean checks it
import Derived.Test.YtekijemacjpceaaDoorQ0
import Derived.Test.YtekijemacjpceaaDoorQ6
import Derived.Test.YtekijemacjpceaaDoorQ10
import Derived.Test.YtekijemacjpceaaDoorQ11
namespace Go.Proofs.YtekijemacjpceaaDoor.Q
open Go.RowKit Go.Proofs.YtekijemacjpceaaDoorW.PrintWords Go.Proofs.YtekijemacjpceaaDoorW.PrintLast Go.Proofs.YtekijemacjpceaaDoorW.PrintMore
attribute [local go_sem] max2_int min2_int max_two min_two max_three min_three max_four min_four   -- for this text's walks alone
set_option linter.unusedVariables false
set_option linter.unusedSimpArgs false

/-! ### cringlelaw11_RefsTexts: function 5 -/
def cringlelaw11_RefsTexts.f (k : Nat) (a0 : ByteArray) (a1 : Bool) : Option (Bool) := (cringlelaw11_long.f a0).bind fun t293 => (if t293 = true then ((cringlelaw11_alive.f k).bind fun t294 => (some t294)) else ((refs_Decode.f k a0 a1).bind fun t295 => ((cringleref11_Decode.f k a0 a1).bind fun t296 => (if t295.toList = t296.toList then ((refs_Encode.f a0 a1).bind fun t297 => ((cringleref11_Encode.f k a0 a1).bind fun t298 => (if t297.toList = t298.toList then ((cringlelaw11_alive.f k).bind fun t299 => (some t299)) else (some false)))) else (some false)))))
theorem cringlelaw11_RefsTexts.mono : ∀ a0 a1 k, LeO (cringlelaw11_RefsTexts.f k a0 a1) (cringlelaw11_RefsTexts.f (k + 1) a0 a1) := by
  intro a0 a1 k
  unfold cringlelaw11_RefsTexts.f
  repeat' first
      | (with_reducible exact cringlelaw11_alive.mono _)
      | (with_reducible exact cringleref11_Decode.mono _ _ _)
      | (with_reducible exact cringleref11_Encode.mono _ _ _)
      | (with_reducible exact refs_Decode.mono _ _ _)
      | (with_reducible exact LeO.refl _)
      | (with_reducible exact LeO.none _)
      | (with_reducible refine LeO.ite ?_ ?_)
      | (with_reducible refine LeO.bind ?_ (fun _ => ?_))
      | exact cringlelaw11_alive.mono _
      | exact cringleref11_Decode.mono _ _ _
      | exact cringleref11_Encode.mono _ _ _
      | exact refs_Decode.mono _ _ _
      | exact LeO.none _
      | refine LeO.ite ?_ ?_
      | refine LeO.bind ?_ (fun _ => ?_)
set_option maxHeartbeats 8000000 in
set_option maxRecDepth 100000 in
theorem cringlelaw11_RefsTexts.calls (k : Nat) (a0 : ByteArray) (a1 : Bool) (r : Bool) (w : World) (h : cringlelaw11_RefsTexts.f k a0 a1 = some r) (htrue : Aside0 (r = true)) (TT_ : Aside0 (Go.Proofs.YtekijemacjpceaaDoor.Tabs w) := by first | exact TT_ | exact ⟨Go.Proofs.YtekijemacjpceaaDoor.Tabs.below TT_.out (by repeat (first | (with_reducible first | exact HB.out | apply below_alloc | apply pw_below_drewN | apply below_drew1) | exact HB.out | (refine below_set ?_ ?_; rotate_left; exact (Aside0.out (by assumption)))))⟩) :
    Calls Tryd.prog 5 #[.string a0, .bool a1] w fun e w' => e = .returned (.bool r) ∧ Below w.heap.size w w' := by
  have HB := Aside0.mk (Below.refl w.heap.size w)
  have H : ((cringlelaw11_long.f a0).bind fun t293 => (if t293 = true then ((cringlelaw11_alive.f k).bind fun t294 => (some t294)) else ((refs_Decode.f k a0 a1).bind fun t295 => ((cringleref11_Decode.f k a0 a1).bind fun t296 => (if t295.toList = t296.toList then ((refs_Encode.f a0 a1).bind fun t297 => ((cringleref11_Encode.f k a0 a1).bind fun t298 => (if t297.toList = t298.toList then ((cringlelaw11_alive.f k).bind fun t299 => (some t299)) else (some false)))) else (some false)))))) = some r := h
  clear h
  replace H := Option.bind_eq_some_iff.mp H
  obtain ⟨t293, A30, H⟩ := H
  replace H : (if t293 = true then ((cringlelaw11_alive.f k).bind fun t294 => (some t294)) else ((refs_Decode.f k a0 a1).bind fun t295 => ((cringleref11_Decode.f k a0 a1).bind fun t296 => (if t295.toList = t296.toList then ((refs_Encode.f a0 a1).bind fun t297 => ((cringleref11_Encode.f k a0 a1).bind fun t298 => (if t297.toList = t298.toList then ((cringlelaw11_alive.f k).bind fun t299 => (some t299)) else (some false)))) else (some false))))) = some r := H
  have A3 := Aside0.mk A30
  clear A30
  by_cases c4 : t293 = true
  · subst c4
    have H1 : ((cringlelaw11_alive.f k).bind fun t294 => (some t294)) = some r := by rw [if_pos rfl] at H; exact H
    clear H
    have H := H1
    clear H1
    replace H := Option.bind_eq_some_iff.mp H
    obtain ⟨t294, A50, H⟩ := H
    replace H : (some t294) = some r := H
    have A5 := Aside0.mk A50
    clear A50
    obtain rfl := Option.some.inj H
    go_enter Tryd.func5, Tryd.ntmps5
    go_wp2_with (first | ((with_reducible refine gate_callee (f := 14) rfl ?_); refine goesL_ (some 6) rfl rfl Tryd.func14 (by kernel_rfl) rfl #[.string a0] rfl (by (try simp only [List.map_toArray, List.map_cons, List.map_nil]); first | done | rfl | (simp only [List.length_drop, List.length_take]; rfl)) ?_; (with_reducible refine (cringlelaw11_long.calls a0 true _ A3.out).mono ?_); rintro e w' ⟨rfl, ⟨nd, rfl⟩⟩; refine ⟨_, rfl, ?_⟩) | ((with_reducible refine gate_callee (f := 13) rfl ?_); refine goesL_ (some 7) rfl rfl Tryd.func13 (by kernel_rfl) rfl #[] rfl (by (try simp only [List.map_toArray, List.map_cons, List.map_nil]); first | done | rfl | (simp only [List.length_drop, List.length_take]; rfl)) ?_; (with_reducible refine (cringlelaw11_alive.calls k  t294 _ A5.out).mono ?_); rintro e w6 ⟨rfl, hb⟩; refine ⟨_, rfl, ?_⟩; have n0_ := Aside0.mk (below_step (by repeat (first | (with_reducible first | exact HB.out | apply below_alloc | apply pw_below_drewN | apply below_drew1) | exact HB.out)) hb); clear HB; have HB := n0_; clear n0_; (try clear hb); (try clear hb2); (try clear hk); (try clear hi)))
    go_ret
    exact ⟨by first | rfl | (simp [errW_none, errW_some] <;> rfl) | (simp [*, errW_none, errW_some] <;> rfl), by repeat (first | (with_reducible first | exact HB.out | apply below_alloc | apply pw_below_drewN | apply below_drew1) | exact HB.out)⟩
  · replace c4 := Bool.eq_false_iff.mpr c4
    subst c4
    have H1 : ((refs_Decode.f k a0 a1).bind fun t295 => ((cringleref11_Decode.f k a0 a1).bind fun t296 => (if t295.toList = t296.toList then ((refs_Encode.f a0 a1).bind fun t297 => ((cringleref11_Encode.f k a0 a1).bind fun t298 => (if t297.toList = t298.toList then ((cringlelaw11_alive.f k).bind fun t299 => (some t299)) else (some false)))) else (some false)))) = some r := by rw [if_neg (show ¬ (false = true) by decide)] at H; exact H
    clear H
    have H := H1
    clear H1
    replace H := Option.bind_eq_some_iff.mp H
    obtain ⟨t295, A70, H⟩ := H
    replace H : ((cringleref11_Decode.f k a0 a1).bind fun t296 => (if t295.toList = t296.toList then ((refs_Encode.f a0 a1).bind fun t297 => ((cringleref11_Encode.f k a0 a1).bind fun t298 => (if t297.toList = t298.toList then ((cringlelaw11_alive.f k).bind fun t299 => (some t299)) else (some false)))) else (some false))) = some r := H
    have A7 := Aside0.mk A70
    clear A70
    replace H := Option.bind_eq_some_iff.mp H
    obtain ⟨t296, A80, H⟩ := H
    replace H : (if t295.toList = t296.toList then ((refs_Encode.f a0 a1).bind fun t297 => ((cringleref11_Encode.f k a0 a1).bind fun t298 => (if t297.toList = t298.toList then ((cringlelaw11_alive.f k).bind fun t299 => (some t299)) else (some false)))) else (some false)) = some r := H
    have A8 := Aside0.mk A80
    clear A80
    by_cases c9 : t295.toList = t296.toList
    · rw [if_pos c9] at H
      have c9b0 : (t295.toList == t296.toList) = true := beq_iff_eq.mpr c9
      have c9b1 : (t295.toList != t296.toList) = false := bne_eq_false_iff_eq.mpr c9
      clear c9
      replace H := Option.bind_eq_some_iff.mp H
      obtain ⟨t297, A100, H⟩ := H
      replace H : ((cringleref11_Encode.f k a0 a1).bind fun t298 => (if t297.toList = t298.toList then ((cringlelaw11_alive.f k).bind fun t299 => (some t299)) else (some false))) = some r := H
      have A10 := Aside0.mk A100
      clear A100
      replace H := Option.bind_eq_some_iff.mp H
      obtain ⟨t298, A110, H⟩ := H
      replace H : (if t297.toList = t298.toList then ((cringlelaw11_alive.f k).bind fun t299 => (some t299)) else (some false)) = some r := H
      have A11 := Aside0.mk A110
      clear A110
      by_cases c12 : t297.toList = t298.toList
      · rw [if_pos c12] at H
        have c12b0 : (t297.toList == t298.toList) = true := beq_iff_eq.mpr c12
        have c12b1 : (t297.toList != t298.toList) = false := bne_eq_false_iff_eq.mpr c12
        clear c12
        replace H := Option.bind_eq_some_iff.mp H
        obtain ⟨t299, A130, H⟩ := H
        replace H : (some t299) = some r := H
        have A13 := Aside0.mk A130
        clear A130
        obtain rfl := Option.some.inj H
        go_enter Tryd.func5, Tryd.ntmps5
        go_wp2_with (first | ((with_reducible refine gate_callee (f := 14) rfl ?_); refine goesL_ (some 6) rfl rfl Tryd.func14 (by kernel_rfl) rfl #[.string a0] rfl (by (try simp only [List.map_toArray, List.map_cons, List.map_nil]); first | done | rfl | (simp only [List.length_drop, List.length_take]; rfl)) ?_; (with_reducible refine (cringlelaw11_long.calls a0 false _ A3.out).mono ?_); rintro e w' ⟨rfl, ⟨nd, rfl⟩⟩; refine ⟨_, rfl, ?_⟩) | ((with_reducible refine gate_callee (f := 17) rfl ?_); refine goesL_ (some 10) rfl rfl Tryd.func17 (by kernel_rfl) rfl #[.string a0, .bool a1] rfl (by (try simp only [List.map_toArray, List.map_cons, List.map_nil]); first | done | rfl | (simp only [List.length_drop, List.length_take]; rfl)) ?_; (with_reducible refine (refs_Decode.calls k a0 a1 t295 _ A7.out).mono ?_); rintro e w14 ⟨rfl, hb⟩; refine ⟨_, rfl, ?_⟩; have n0_ := Aside0.mk (below_step (by repeat (first | (with_reducible first | exact HB.out | apply below_alloc | apply pw_below_drewN | apply below_drew1) | exact HB.out)) hb); clear HB; have HB := n0_; clear n0_; (try clear hb); (try clear hb2); (try clear hk); (try clear hi)) | ((with_reducible refine gate_callee (f := 18) rfl ?_); refine goesL_ (some 13) rfl rfl Tryd.func18 (by kernel_rfl) rfl #[.string a0, .bool a1] rfl (by (try simp only [List.map_toArray, List.map_cons, List.map_nil]); first | done | rfl | (simp only [List.length_drop, List.length_take]; rfl)) ?_; (with_reducible refine (cringleref11_Decode.calls k a0 a1 t296 _ A8.out).mono ?_); rintro e w15 ⟨rfl, hb⟩; refine ⟨_, rfl, ?_⟩; have n0_ := Aside0.mk (below_step (by repeat (first | (with_reducible first | exact HB.out | apply below_alloc | apply pw_below_drewN | apply below_drew1) | exact HB.out)) hb); clear HB; have HB := n0_; clear n0_; (try clear hb); (try clear hb2); (try clear hk); (try clear hi)) | (go_at_call 19; (with_reducible refine (refs_Encode.calls a0 a1 t297 _ A10.out).mono ?_); rintro e w16 ⟨rfl, hb⟩; have n0_ := Aside0.mk (below_step (by repeat (first | (with_reducible first | exact HB.out | apply below_alloc | apply pw_below_drewN | apply below_drew1) | exact HB.out)) hb); clear HB; have HB := n0_; clear n0_; (try clear hb); (try clear hb2); (try clear hk); (try clear hi)) | (go_at_call 20; (with_reducible refine (cringleref11_Encode.calls k a0 a1 t298 _ A11.out).mono ?_); rintro e w' ⟨rfl, ⟨nd, rfl⟩⟩) | (go_at_call 13; (with_reducible refine (cringlelaw11_alive.calls k  t299 _ A13.out).mono ?_); rintro e w17 ⟨rfl, hb⟩; have n0_ := Aside0.mk (below_step (by repeat (first | (with_reducible first | exact HB.out | apply below_alloc | apply pw_below_drewN | apply below_drew1) | exact HB.out)) hb); clear HB; have HB := n0_; clear n0_; (try clear hb); (try clear hb2); (try clear hk); (try clear hi)))
        go_ret
        exact ⟨by first | rfl | (simp [errW_none, errW_some] <;> rfl) | (simp [*, errW_none, errW_some] <;> rfl), by repeat (first | (with_reducible first | exact HB.out | apply below_alloc | apply pw_below_drewN | apply below_drew1) | exact HB.out)⟩
      · rw [if_neg c12] at H
        have c12b0 : (t297.toList == t298.toList) = false := beq_eq_false_iff_ne.mpr c12
        have c12b1 : (t297.toList != t298.toList) = true := bne_iff_ne.mpr c12
        exact absurd (Option.some.inj H) (by rw [htrue.out]; decide)
    · rw [if_neg c9] at H
      have c9b0 : (t295.toList == t296.toList) = false := beq_eq_false_iff_ne.mpr c9
      have c9b1 : (t295.toList != t296.toList) = true := bne_iff_ne.mpr c9
      exact absurd (Option.some.inj H) (by rw [htrue.out]; decide)

/-! ### cringlelaw11_RefsBack: function 6 -/
def cringlelaw11_RefsBack.l0 : Nat → ByteArray → Bool → ByteArray → Int → Int → Option (Bool)
  | 0, _, _, _, _, _ => none
  | k + 1, x0, x1, x5, x14, x15 => if x15 < x14 then (if 0 ≤ x15 then (if x15 < (x5.size : Int) then (if (bt x5 x15) = 34 then (if x1 = true then (some false) else (if (bt x5 x15) = 60 then (some false) else (if (bt x5 x15) = 62 then (some false) else (cringlelaw11_RefsBack.l0 k x0 x1 x5 x14 (wrap64 (x15 + 1)))))) else (if (bt x5 x15) = 60 then (if x1 = true then (cringlelaw11_RefsBack.l0 k x0 x1 x5 x14 (wrap64 (x15 + 1))) else (some false)) else (if (bt x5 x15) = 62 then (if x1 = true then (cringlelaw11_RefsBack.l0 k x0 x1 x5 x14 (wrap64 (x15 + 1))) else (some false)) else (cringlelaw11_RefsBack.l0 k x0 x1 x5 x14 (wrap64 (x15 + 1)))))) else (none)) else (none)) else ((refs_Decode.f k x5 x1).bind fun t303 => (if t303.toList = x0.toList then ((refs_Decode.f k x5 (!x1)).bind fun t304 => (if t304.toList = x0.toList then ((cringlelaw11_alive.f k).bind fun t305 => (some t305)) else (some false))) else (some false)))
def cringlelaw11_RefsBack.f (k : Nat) (a0 : ByteArray) (a1 : Bool) : Option (Bool) := (cringlelaw11_long.f a0).bind fun t300 => (if t300 = true then ((cringlelaw11_alive.f k).bind fun t301 => (some t301)) else ((refs_Encode.f a0 a1).bind fun t302 => (cringlelaw11_RefsBack.l0 k a0 a1 t302 (t302.size : Int) 0)))
theorem cringlelaw11_RefsBack.mono_l : ∀ k, (∀ y0 y1 y2 y3 y4, LeO (cringlelaw11_RefsBack.l0 k y0 y1 y2 y3 y4) (cringlelaw11_RefsBack.l0 (k + 1) y0 y1 y2 y3 y4))
  | 0 => fun _ _ _ _ _ r h => by simp [cringlelaw11_RefsBack.l0] at h
  | k + 1 => by
    have ih0 := cringlelaw11_RefsBack.mono_l k
    · intro y0 y1 y2 y3 y4
      unfold cringlelaw11_RefsBack.l0
      repeat' first
      | (with_reducible exact ih0 _ _ _ _ _)
      | (with_reducible exact cringlelaw11_alive.mono _)
      | (with_reducible exact refs_Decode.mono _ _ _)
      | (with_reducible exact LeO.refl _)
      | (with_reducible exact LeO.none _)
      | (with_reducible refine LeO.ite ?_ ?_)
      | (with_reducible refine LeO.bind ?_ (fun _ => ?_))
      | exact ih0 _ _ _ _ _
      | exact cringlelaw11_alive.mono _
      | exact refs_Decode.mono _ _ _
      | exact LeO.none _
      | refine LeO.ite ?_ ?_
      | refine LeO.bind ?_ (fun _ => ?_)
theorem cringlelaw11_RefsBack.mono : ∀ a0 a1 k, LeO (cringlelaw11_RefsBack.f k a0 a1) (cringlelaw11_RefsBack.f (k + 1) a0 a1) := by
  intro a0 a1 k
  have ih0 := cringlelaw11_RefsBack.mono_l k
  unfold cringlelaw11_RefsBack.f
  repeat' first
      | (with_reducible exact ih0 _ _ _ _ _)
      | (with_reducible exact cringlelaw11_alive.mono _)
      | (with_reducible exact refs_Decode.mono _ _ _)
      | (with_reducible exact LeO.refl _)
      | (with_reducible exact LeO.none _)
      | (with_reducible refine LeO.ite ?_ ?_)
      | (with_reducible refine LeO.bind ?_ (fun _ => ?_))
      | exact ih0 _ _ _ _ _
      | exact cringlelaw11_alive.mono _
      | exact refs_Decode.mono _ _ _
      | exact LeO.none _
      | refine LeO.ite ?_ ?_
      | refine LeO.bind ?_ (fun _ => ?_)
set_option maxHeartbeats 8000000 in
set_option maxRecDepth 100000 in
theorem cringlelaw11_RefsBack.calls (k : Nat) (a0 : ByteArray) (a1 : Bool) (r : Bool) (w : World) (h : cringlelaw11_RefsBack.f k a0 a1 = some r) (htrue : Aside0 (r = true)) (TT_ : Aside0 (Go.Proofs.YtekijemacjpceaaDoor.Tabs w) := by first | exact TT_ | exact ⟨Go.Proofs.YtekijemacjpceaaDoor.Tabs.below TT_.out (by repeat (first | (with_reducible first | exact HB.out | apply below_alloc | apply pw_below_drewN | apply below_drew1) | exact HB.out | (refine below_set ?_ ?_; rotate_left; exact (Aside0.out (by assumption)))))⟩) :
    Calls Tryd.prog 6 #[.string a0, .bool a1] w fun e w' => e = .returned (.bool r) ∧ Below w.heap.size w w' := by
  have HB := Aside0.mk (Below.refl w.heap.size w)
  have H : ((cringlelaw11_long.f a0).bind fun t300 => (if t300 = true then ((cringlelaw11_alive.f k).bind fun t301 => (some t301)) else ((refs_Encode.f a0 a1).bind fun t302 => (cringlelaw11_RefsBack.l0 k a0 a1 t302 (t302.size : Int) 0)))) = some r := h
  clear h
  replace H := Option.bind_eq_some_iff.mp H
  obtain ⟨t300, A30, H⟩ := H
  replace H : (if t300 = true then ((cringlelaw11_alive.f k).bind fun t301 => (some t301)) else ((refs_Encode.f a0 a1).bind fun t302 => (cringlelaw11_RefsBack.l0 k a0 a1 t302 (t302.size : Int) 0))) = some r := H
  have A3 := Aside0.mk A30
  clear A30
  by_cases c4 : t300 = true
  · subst c4
    have H1 : ((cringlelaw11_alive.f k).bind fun t301 => (some t301)) = some r := by rw [if_pos rfl] at H; exact H
    clear H
    have H := H1
    clear H1
    replace H := Option.bind_eq_some_iff.mp H
    obtain ⟨t301, A50, H⟩ := H
    replace H : (some t301) = some r := H
    have A5 := Aside0.mk A50
    clear A50
    obtain rfl := Option.some.inj H
    go_enter Tryd.func6, Tryd.ntmps6
    go_wp2_with (first | ((with_reducible refine gate_callee (f := 14) rfl ?_); refine goesL_ (some 8) rfl rfl Tryd.func14 (by kernel_rfl) rfl #[.string a0] rfl (by (try simp only [List.map_toArray, List.map_cons, List.map_nil]); first | done | rfl | (simp only [List.length_drop, List.length_take]; rfl)) ?_; (with_reducible refine (cringlelaw11_long.calls a0 true _ A3.out).mono ?_); rintro e w' ⟨rfl, ⟨nd, rfl⟩⟩; refine ⟨_, rfl, ?_⟩) | ((with_reducible refine gate_callee (f := 13) rfl ?_); refine goesL_ (some 9) rfl rfl Tryd.func13 (by kernel_rfl) rfl #[] rfl (by (try simp only [List.map_toArray, List.map_cons, List.map_nil]); first | done | rfl | (simp only [List.length_drop, List.length_take]; rfl)) ?_; (with_reducible refine (cringlelaw11_alive.calls k  t301 _ A5.out).mono ?_); rintro e w6 ⟨rfl, hb⟩; refine ⟨_, rfl, ?_⟩; have n0_ := Aside0.mk (below_step (by repeat (first | (with_reducible first | exact HB.out | apply below_alloc | apply pw_below_drewN | apply below_drew1) | exact HB.out)) hb); clear HB; have HB := n0_; clear n0_; (try clear hb); (try clear hb2); (try clear hk); (try clear hi)))
    go_ret
    exact ⟨by first | rfl | (simp [errW_none, errW_some] <;> rfl) | (simp [*, errW_none, errW_some] <;> rfl), by repeat (first | (with_reducible first | exact HB.out | apply below_alloc | apply pw_below_drewN | apply below_drew1) | exact HB.out)⟩
  · replace c4 := Bool.eq_false_iff.mpr c4
    subst c4
    have H1 : ((refs_Encode.f a0 a1).bind fun t302 => (cringlelaw11_RefsBack.l0 k a0 a1 t302 (t302.size : Int) 0)) = some r := by rw [if_neg (show ¬ (false = true) by decide)] at H; exact H
    clear H
    have H := H1
    clear H1
    replace H := Option.bind_eq_some_iff.mp H
    obtain ⟨t302, A70, H⟩ := H
    replace H : (cringlelaw11_RefsBack.l0 k a0 a1 t302 (t302.size : Int) 0) = some r := H
    have A7 := Aside0.mk A70
    clear A70
    have H' := Aside0.mk H
    clear H
    go_enter Tryd.func6, Tryd.ntmps6
    go_wp2_with (first | ((with_reducible refine gate_callee (f := 14) rfl ?_); refine goesL_ (some 8) rfl rfl Tryd.func14 (by kernel_rfl) rfl #[.string a0] rfl (by (try simp only [List.map_toArray, List.map_cons, List.map_nil]); first | done | rfl | (simp only [List.length_drop, List.length_take]; rfl)) ?_; (with_reducible refine (cringlelaw11_long.calls a0 false _ A3.out).mono ?_); rintro e w' ⟨rfl, ⟨nd, rfl⟩⟩; refine ⟨_, rfl, ?_⟩) | ((with_reducible refine gate_callee (f := 19) rfl ?_); refine goesL_ (some 12) rfl rfl Tryd.func19 (by kernel_rfl) rfl #[.string a0, .bool a1] rfl (by (try simp only [List.map_toArray, List.map_cons, List.map_nil]); first | done | rfl | (simp only [List.length_drop, List.length_take]; rfl)) ?_; (with_reducible refine (refs_Encode.calls a0 a1 t302 _ A7.out).mono ?_); rintro e w8 ⟨rfl, hb⟩; refine ⟨_, rfl, ?_⟩; have n0_ := Aside0.mk (below_step (by repeat (first | (with_reducible first | exact HB.out | apply below_alloc | apply pw_below_drewN | apply below_drew1) | exact HB.out)) hb); clear HB; have HB := n0_; clear n0_; (try clear hb); (try clear hb2); (try clear hk); (try clear hi)))
    go_loopg [15] k (fun kq v15 w' => ∃ (x15_1 : Int), v15 = .int .i64 x15_1 ∧ Aside0 (cringlelaw11_RefsBack.l0 kq a0 a1 t302 (t302.size : Int) x15_1 = some r) ∧ Aside0 (kq ≤ k) ∧ Aside0 (Below w.heap.size w w'))
    case atStart => exact ⟨(0), (by first | rfl | (simp; done) | (simp [*]; done) | (simp; unfold wrap64; omega)), H', ⟨Nat.le_refl _⟩, ⟨by repeat (first | (with_reducible first | exact HB.out | apply below_alloc | apply pw_below_drewN | apply below_drew1) | exact HB.out)⟩⟩
    case round =>
      clear H'
      try clear c1
      try clear p2
      try clear c4
      try clear c6
      try clear p6
      obtain ⟨x15_1, rfl, HA, HK1, HB⟩ := hrel
      cases gk with
      | zero => exact absurd HA.out (by simp [cringlelaw11_RefsBack.l0])
      | succ k1 =>
        have H := HA.out
        clear HA
        simp only [cringlelaw11_RefsBack.l0] at H
        by_cases c9 : x15_1 < (t302.size : Int)
        · rw [if_pos c9] at H
          have c9b0 : decide (x15_1 < (t302.size : Int)) = true := decide_eq_true c9
          clear c9
          by_cases c10 : 0 ≤ x15_1
          · rw [if_pos c10] at H
            have c10b0 : decide (0 ≤ x15_1) = true := decide_eq_true c10
            clear c10
            by_cases c11 : x15_1 < (t302.size : Int)
            · rw [if_pos c11] at H
              have c11b0 : decide (x15_1 < (t302.size : Int)) = true := decide_eq_true c11
              clear c11
              by_cases c13 : (bt t302 x15_1) = 34
              · rw [if_pos c13] at H
                have c13b0 : ((bt t302 x15_1) == 34) = true := beq_iff_eq.mpr c13
                have c13b1 : ((bt t302 x15_1) != 34) = false := bne_eq_false_iff_eq.mpr c13
                clear c13
                by_cases c14 : a1 = true
                · subst c14
                  have H1 : (some false) = some r := by rw [if_pos rfl] at H; exact H
                  clear H
                  have H := H1
                  clear H1
                  exact absurd (Option.some.inj H) (by rw [htrue.out]; decide)
                · replace c14 := Bool.eq_false_iff.mpr c14
                  subst c14
                  have H1 : (if (bt t302 x15_1) = 60 then (some false) else (if (bt t302 x15_1) = 62 then (some false) else (cringlelaw11_RefsBack.l0 k1 a0 false t302 (t302.size : Int) (wrap64 (x15_1 + 1))))) = some r := by rw [if_neg (show ¬ (false = true) by decide)] at H; exact H
                  clear H
                  have H := H1
                  clear H1
                  by_cases c16 : (bt t302 x15_1) = 60
                  · rw [if_pos c16] at H
                    have c16b0 : ((bt t302 x15_1) == 60) = true := beq_iff_eq.mpr c16
                    have c16b1 : ((bt t302 x15_1) != 60) = false := bne_eq_false_iff_eq.mpr c16
                    clear c16
                    exact absurd (Option.some.inj H) (by rw [htrue.out]; decide)
                  · rw [if_neg c16] at H
                    have c16b0 : ((bt t302 x15_1) == 60) = false := beq_eq_false_iff_ne.mpr c16
                    have c16b1 : ((bt t302 x15_1) != 60) = true := bne_iff_ne.mpr c16
                    by_cases c18 : (bt t302 x15_1) = 62
                    · rw [if_pos c18] at H
                      have c18b0 : ((bt t302 x15_1) == 62) = true := beq_iff_eq.mpr c18
                      have c18b1 : ((bt t302 x15_1) != 62) = false := bne_eq_false_iff_eq.mpr c18
                      clear c18
                      exact absurd (Option.some.inj H) (by rw [htrue.out]; decide)
                    · rw [if_neg c18] at H
                      have c18b0 : ((bt t302 x15_1) == 62) = false := beq_eq_false_iff_ne.mpr c18
                      have c18b1 : ((bt t302 x15_1) != 62) = true := bne_iff_ne.mpr c18
                      have H' := Aside0.mk H
                      clear H
                      have p12 : 0 ≤ (x15_1 : Int) := of_decide_eq_true (by first | (with_reducible assumption) | assumption)
                      have q12 : x15_1 < (t302.size : Int) := of_decide_eq_true (by first | (with_reducible assumption) | assumption)
                      have hx12 := bt_at t302 x15_1
                      replace p12 := eq_true p12
                      replace q12 := eq_true q12
                      have p15 : 0 ≤ (x15_1 : Int) := of_decide_eq_true (by first | (with_reducible assumption) | assumption)
                      have q15 : x15_1 < (t302.size : Int) := of_decide_eq_true (by first | (with_reducible assumption) | assumption)
                      have hx15 := bt_at t302 x15_1
                      replace p15 := eq_true p15
                      replace q15 := eq_true q15
                      have p17 : 0 ≤ (x15_1 : Int) := of_decide_eq_true (by first | (with_reducible assumption) | assumption)
                      have q17 : x15_1 < (t302.size : Int) := of_decide_eq_true (by first | (with_reducible assumption) | assumption)
                      have hx17 := bt_at t302 x15_1
                      replace p17 := eq_true p17
                      replace q17 := eq_true q17
                      go_wp2
                      go_roundg k1
                      case measure => have := HK1.out; omega
                      case rel => exact ⟨(wrap64 (x15_1 + 1)), (by first | rfl | (simp; done) | (simp [*]; done) | (simp; unfold wrap64; omega)), H', ⟨by have := HK1.out; omega⟩, ⟨by repeat (first | (with_reducible first | exact HB.out | apply below_alloc | apply pw_below_drewN | apply below_drew1) | exact HB.out)⟩⟩
              · rw [if_neg c13] at H
                have c13b0 : ((bt t302 x15_1) == 34) = false := beq_eq_false_iff_ne.mpr c13
                have c13b1 : ((bt t302 x15_1) != 34) = true := bne_iff_ne.mpr c13
                by_cases c20 : (bt t302 x15_1) = 60
                · rw [if_pos c20] at H
                  have c20b0 : ((bt t302 x15_1) == 60) = true := beq_iff_eq.mpr c20
                  have c20b1 : ((bt t302 x15_1) != 60) = false := bne_eq_false_iff_eq.mpr c20
                  clear c20
                  by_cases c21 : a1 = true
                  · subst c21
                    have H1 : (cringlelaw11_RefsBack.l0 k1 a0 true t302 (t302.size : Int) (wrap64 (x15_1 + 1))) = some r := by rw [if_pos rfl] at H; exact H
                    clear H
                    have H := H1
                    clear H1
                    have H' := Aside0.mk H
                    clear H
                    have p12 : 0 ≤ (x15_1 : Int) := of_decide_eq_true (by first | (with_reducible assumption) | assumption)
                    have q12 : x15_1 < (t302.size : Int) := of_decide_eq_true (by first | (with_reducible assumption) | assumption)
                    have hx12 := bt_at t302 x15_1
                    replace p12 := eq_true p12
                    replace q12 := eq_true q12
                    have p19 : 0 ≤ (x15_1 : Int) := of_decide_eq_true (by first | (with_reducible assumption) | assumption)
                    have q19 : x15_1 < (t302.size : Int) := of_decide_eq_true (by first | (with_reducible assumption) | assumption)
                    have hx19 := bt_at t302 x15_1
                    replace p19 := eq_true p19
                    replace q19 := eq_true q19
                    go_wp2
                    go_roundg k1
                    case measure => have := HK1.out; omega
                    case rel => exact ⟨(wrap64 (x15_1 + 1)), (by first | rfl | (simp; done) | (simp [*]; done) | (simp; unfold wrap64; omega)), H', ⟨by have := HK1.out; omega⟩, ⟨by repeat (first | (with_reducible first | exact HB.out | apply below_alloc | apply pw_below_drewN | apply below_drew1) | exact HB.out)⟩⟩
                  · replace c21 := Bool.eq_false_iff.mpr c21
                    subst c21
                    have H1 : (some false) = some r := by rw [if_neg (show ¬ (false = true) by decide)] at H; exact H
                    clear H
                    have H := H1
                    clear H1
                    exact absurd (Option.some.inj H) (by rw [htrue.out]; decide)
                · rw [if_neg c20] at H
                  have c20b0 : ((bt t302 x15_1) == 60) = false := beq_eq_false_iff_ne.mpr c20
                  have c20b1 : ((bt t302 x15_1) != 60) = true := bne_iff_ne.mpr c20
                  by_cases c23 : (bt t302 x15_1) = 62
                  · rw [if_pos c23] at H
                    have c23b0 : ((bt t302 x15_1) == 62) = true := beq_iff_eq.mpr c23
                    have c23b1 : ((bt t302 x15_1) != 62) = false := bne_eq_false_iff_eq.mpr c23
                    clear c23
                    by_cases c24 : a1 = true
                    · subst c24
                      have H1 : (cringlelaw11_RefsBack.l0 k1 a0 true t302 (t302.size : Int) (wrap64 (x15_1 + 1))) = some r := by rw [if_pos rfl] at H; exact H
                      clear H
                      have H := H1
                      clear H1
                      have H' := Aside0.mk H
                      clear H
                      have p12 : 0 ≤ (x15_1 : Int) := of_decide_eq_true (by first | (with_reducible assumption) | assumption)
                      have q12 : x15_1 < (t302.size : Int) := of_decide_eq_true (by first | (with_reducible assumption) | assumption)
                      have hx12 := bt_at t302 x15_1
                      replace p12 := eq_true p12
                      replace q12 := eq_true q12
                      have p19 : 0 ≤ (x15_1 : Int) := of_decide_eq_true (by first | (with_reducible assumption) | assumption)
                      have q19 : x15_1 < (t302.size : Int) := of_decide_eq_true (by first | (with_reducible assumption) | assumption)
                      have hx19 := bt_at t302 x15_1
                      replace p19 := eq_true p19
                      replace q19 := eq_true q19
                      have p22 : 0 ≤ (x15_1 : Int) := of_decide_eq_true (by first | (with_reducible assumption) | assumption)
                      have q22 : x15_1 < (t302.size : Int) := of_decide_eq_true (by first | (with_reducible assumption) | assumption)
                      have hx22 := bt_at t302 x15_1
                      replace p22 := eq_true p22
                      replace q22 := eq_true q22
                      go_wp2
                      go_roundg k1
                      case measure => have := HK1.out; omega
                      case rel => exact ⟨(wrap64 (x15_1 + 1)), (by first | rfl | (simp; done) | (simp [*]; done) | (simp; unfold wrap64; omega)), H', ⟨by have := HK1.out; omega⟩, ⟨by repeat (first | (with_reducible first | exact HB.out | apply below_alloc | apply pw_below_drewN | apply below_drew1) | exact HB.out)⟩⟩
                    · replace c24 := Bool.eq_false_iff.mpr c24
                      subst c24
                      have H1 : (some false) = some r := by rw [if_neg (show ¬ (false = true) by decide)] at H; exact H
                      clear H
                      have H := H1
                      clear H1
                      exact absurd (Option.some.inj H) (by rw [htrue.out]; decide)
                  · rw [if_neg c23] at H
                    have c23b0 : ((bt t302 x15_1) == 62) = false := beq_eq_false_iff_ne.mpr c23
                    have c23b1 : ((bt t302 x15_1) != 62) = true := bne_iff_ne.mpr c23
                    have H' := Aside0.mk H
                    clear H
                    have p12 : 0 ≤ (x15_1 : Int) := of_decide_eq_true (by first | (with_reducible assumption) | assumption)
                    have q12 : x15_1 < (t302.size : Int) := of_decide_eq_true (by first | (with_reducible assumption) | assumption)
                    have hx12 := bt_at t302 x15_1
                    replace p12 := eq_true p12
                    replace q12 := eq_true q12
                    have p19 : 0 ≤ (x15_1 : Int) := of_decide_eq_true (by first | (with_reducible assumption) | assumption)
                    have q19 : x15_1 < (t302.size : Int) := of_decide_eq_true (by first | (with_reducible assumption) | assumption)
                    have hx19 := bt_at t302 x15_1
                    replace p19 := eq_true p19
                    replace q19 := eq_true q19
                    have p22 : 0 ≤ (x15_1 : Int) := of_decide_eq_true (by first | (with_reducible assumption) | assumption)
                    have q22 : x15_1 < (t302.size : Int) := of_decide_eq_true (by first | (with_reducible assumption) | assumption)
                    have hx22 := bt_at t302 x15_1
                    replace p22 := eq_true p22
                    replace q22 := eq_true q22
                    go_wp2
                    go_roundg k1
                    case measure => have := HK1.out; omega
                    case rel => exact ⟨(wrap64 (x15_1 + 1)), (by first | rfl | (simp; done) | (simp [*]; done) | (simp; unfold wrap64; omega)), H', ⟨by have := HK1.out; omega⟩, ⟨by repeat (first | (with_reducible first | exact HB.out | apply below_alloc | apply pw_below_drewN | apply below_drew1) | exact HB.out)⟩⟩
            · rw [if_neg c11] at H
              exact absurd H (by simp)
          · rw [if_neg c10] at H
            exact absurd H (by simp)
        · rw [if_neg c9] at H
          have c9b0 : decide (x15_1 < (t302.size : Int)) = false := decide_eq_false c9
          clear c9
          replace H := Option.bind_eq_some_iff.mp H
          obtain ⟨t303, A250, H⟩ := H
          replace H : (if t303.toList = a0.toList then ((refs_Decode.f k1 t302 (!a1)).bind fun t304 => (if t304.toList = a0.toList then ((cringlelaw11_alive.f k1).bind fun t305 => (some t305)) else (some false))) else (some false)) = some r := H
          have A25 := Aside0.mk A250
          clear A250
          by_cases c26 : t303.toList = a0.toList
          · rw [if_pos c26] at H
            have c26b0 : (t303.toList == a0.toList) = true := beq_iff_eq.mpr c26
            have c26b1 : (t303.toList != a0.toList) = false := bne_eq_false_iff_eq.mpr c26
            clear c26
            replace H := Option.bind_eq_some_iff.mp H
            obtain ⟨t304, A270, H⟩ := H
            replace H : (if t304.toList = a0.toList then ((cringlelaw11_alive.f k1).bind fun t305 => (some t305)) else (some false)) = some r := H
            have A27 := Aside0.mk A270
            clear A270
            by_cases c28 : t304.toList = a0.toList
            · rw [if_pos c28] at H
              have c28b0 : (t304.toList == a0.toList) = true := beq_iff_eq.mpr c28
              have c28b1 : (t304.toList != a0.toList) = false := bne_eq_false_iff_eq.mpr c28
              clear c28
              replace H := Option.bind_eq_some_iff.mp H
              obtain ⟨t305, A290, H⟩ := H
              replace H : (some t305) = some r := H
              have A29 := Aside0.mk A290
              clear A290
              obtain rfl := Option.some.inj H
              go_wp2_with (first | ((with_reducible refine gate_callee (f := 17) rfl ?_); refine goesL_ (some 44) rfl rfl Tryd.func17 (by kernel_rfl) rfl #[.string t302, .bool a1] rfl (by (try simp only [List.map_toArray, List.map_cons, List.map_nil]); first | done | rfl | (simp only [List.length_drop, List.length_take]; rfl)) ?_; (with_reducible refine (refs_Decode.calls k1 t302 a1 t303 _ A25.out).mono ?_); rintro e w30 ⟨rfl, hb⟩; refine ⟨_, rfl, ?_⟩; have n0_ := Aside0.mk (below_step (by repeat (first | (with_reducible first | exact HB.out | apply below_alloc | apply pw_below_drewN | apply below_drew1) | exact HB.out)) hb); clear HB; have HB := n0_; clear n0_; (try clear hb); (try clear hb2); (try clear hk); (try clear hi)) | (go_at_call 17; (with_reducible refine (refs_Decode.calls k1 t302 (!a1) t304 _ A27.out).mono ?_); rintro e w31 ⟨rfl, hb⟩; have n0_ := Aside0.mk (below_step (by repeat (first | (with_reducible first | exact HB.out | apply below_alloc | apply pw_below_drewN | apply below_drew1) | exact HB.out)) hb); clear HB; have HB := n0_; clear n0_; (try clear hb); (try clear hb2); (try clear hk); (try clear hi)) | (go_at_call 13; (with_reducible refine (cringlelaw11_alive.calls k1  t305 _ A29.out).mono ?_); rintro e w32 ⟨rfl, hb⟩; have n0_ := Aside0.mk (below_step (by repeat (first | (with_reducible first | exact HB.out | apply below_alloc | apply pw_below_drewN | apply below_drew1) | exact HB.out)) hb); clear HB; have HB := n0_; clear n0_; (try clear hb); (try clear hb2); (try clear hk); (try clear hi)))
              go_ret
              exact ⟨by first | rfl | (simp [errW_none, errW_some] <;> rfl) | (simp [*, errW_none, errW_some] <;> rfl), by repeat (first | (with_reducible first | exact HB.out | apply below_alloc | apply pw_below_drewN | apply below_drew1) | exact HB.out)⟩
            · rw [if_neg c28] at H
              have c28b0 : (t304.toList == a0.toList) = false := beq_eq_false_iff_ne.mpr c28
              have c28b1 : (t304.toList != a0.toList) = true := bne_iff_ne.mpr c28
              exact absurd (Option.some.inj H) (by rw [htrue.out]; decide)
          · rw [if_neg c26] at H
            have c26b0 : (t303.toList == a0.toList) = false := beq_eq_false_iff_ne.mpr c26
            have c26b1 : (t303.toList != a0.toList) = true := bne_iff_ne.mpr c26
            exact absurd (Option.some.inj H) (by rw [htrue.out]; decide)

/-! ### cringleref02_size: function 51 -/
mutual
def cringleref02_size.j0 : Nat → Int → Bool → Option (Int)
  | 0, _, _ => none
  | k + 1, x0, x6 => if x6 = true then (some 2) else (if x0 ≥ 224 then (cringleref02_size.j1 k x0 (decide (x0 ≤ 239))) else (cringleref02_size.j1 k x0 false))
def cringleref02_size.j1 : Nat → Int → Bool → Option (Int)
  | 0, _, _ => none
  | k + 1, x0, x13 => if x13 = true then (some 3) else (if x0 ≥ 240 then (if x0 ≤ 244 then (some 4) else (some 0)) else (some 0))
end
def cringleref02_size.f (k : Nat) (a0 : Int) : Option (Int) := if a0 < 128 then (some 1) else (if a0 ≥ 194 then (cringleref02_size.j0 k a0 (decide (a0 ≤ 223))) else (cringleref02_size.j0 k a0 false))
theorem cringleref02_size.mono_l : ∀ k, (∀ y0 y1, LeO (cringleref02_size.j0 k y0 y1) (cringleref02_size.j0 (k + 1) y0 y1)) ∧ (∀ y0 y1, LeO (cringleref02_size.j1 k y0 y1) (cringleref02_size.j1 (k + 1) y0 y1))
  | 0 => ⟨fun _ _ r h => by simp [cringleref02_size.j0] at h, fun _ _ r h => by simp [cringleref02_size.j1] at h⟩
  | k + 1 => by
    obtain ⟨ih0, ih1⟩ := cringleref02_size.mono_l k
    refine ⟨?_, ?_⟩
    · intro y0 y1
      unfold cringleref02_size.j0
      repeat' first
      | (with_reducible exact ih0 _ _)
      | (with_reducible exact ih1 _ _)
      | (with_reducible exact LeO.refl _)
      | (with_reducible exact LeO.none _)
      | (with_reducible refine LeO.ite ?_ ?_)
      | (with_reducible refine LeO.bind ?_ (fun _ => ?_))
      | exact ih0 _ _
      | exact ih1 _ _
      | exact LeO.none _
      | refine LeO.ite ?_ ?_
      | refine LeO.bind ?_ (fun _ => ?_)
    · intro y0 y1
      unfold cringleref02_size.j1
      repeat' first
      | (with_reducible exact ih0 _ _)
      | (with_reducible exact ih1 _ _)
      | (with_reducible exact LeO.refl _)
      | (with_reducible exact LeO.none _)
      | (with_reducible refine LeO.ite ?_ ?_)
      | (with_reducible refine LeO.bind ?_ (fun _ => ?_))
      | exact ih0 _ _
      | exact ih1 _ _
      | exact LeO.none _
      | refine LeO.ite ?_ ?_
      | refine LeO.bind ?_ (fun _ => ?_)
theorem cringleref02_size.mono : ∀ a0 k, LeO (cringleref02_size.f k a0) (cringleref02_size.f (k + 1) a0) := by
  intro a0 k
  obtain ⟨ih0, ih1⟩ := cringleref02_size.mono_l k
  unfold cringleref02_size.f
  repeat' first
      | (with_reducible exact ih0 _ _)
      | (with_reducible exact ih1 _ _)
      | (with_reducible exact LeO.refl _)
      | (with_reducible exact LeO.none _)
      | (with_reducible refine LeO.ite ?_ ?_)
      | (with_reducible refine LeO.bind ?_ (fun _ => ?_))
      | exact ih0 _ _
      | exact ih1 _ _
      | exact LeO.none _
      | refine LeO.ite ?_ ?_
      | refine LeO.bind ?_ (fun _ => ?_)
set_option maxHeartbeats 8000000 in
set_option maxRecDepth 100000 in
theorem cringleref02_size.calls (k : Nat) (a0 : Int) (r : Int) (w : World) (h : cringleref02_size.f k a0 = some r) :
    Calls Tryd.prog 51 #[.int .u8 a0] w fun e w' => e = .returned (.int .i64 r) ∧ Drawn0 w w' := by
  have H : (if a0 < 128 then (some 1) else (if a0 ≥ 194 then (cringleref02_size.j0 k a0 (decide (a0 ≤ 223))) else (cringleref02_size.j0 k a0 false))) = some r := h
  clear h
  by_cases c2 : a0 < 128
  · rw [if_pos c2] at H
    have c2b0 : decide (a0 < 128) = true := decide_eq_true c2
    clear c2
    obtain rfl := Option.some.inj H
    go_enter Tryd.func51, Tryd.ntmps51
    go_wp2
    go_ret
    exact ⟨by first | rfl | (simp; done) | (simp [*]; done) | (simp; unfold wrap64; omega), by repeat (first | exact Drawn0.refl _ | apply Drawn0.step)⟩
  · rw [if_neg c2] at H
    have c2b0 : decide (a0 < 128) = false := decide_eq_false c2
    clear c2
    have HC3 := Aside0.mk H
    clear H
    go_enter Tryd.func51, Tryd.ntmps51
    go_upto_region 3 with (fail)
    go_cut [6] (fun v6 wc => ∃ (kq : Nat) (x6_2 : Bool), v6 = .bool x6_2 ∧ Aside0 (cringleref02_size.j0 kq a0 x6_2 = some r) ∧ Aside0 (kq ≤ k) ∧ Drawn0 w wc)
    case first =>
      have H := HC3.out
      clear HC3
      by_cases c4 : a0 ≥ 194
      · rw [if_pos c4] at H
        have c4b0 : decide (194 ≤ a0) = true := decide_eq_true c4
        clear c4
        (first | rw [c4b0] | (simp only [i64_w, i32_w]; rw [c4b0]) | skip)
        have H' := Aside0.mk H
        clear H
        go_wp2
        go_meet
        case rel => exact ⟨_, (decide (a0 ≤ 223)), (by first | rfl | (simp; done) | (simp [*]; done) | (simp; unfold wrap64; omega)), H', ⟨by first | omega | exact Nat.le_refl _⟩, by repeat (first | exact Drawn0.refl _ | apply Drawn0.step)⟩
      · rw [if_neg c4] at H
        have c4b0 : decide (194 ≤ a0) = false := decide_eq_false c4
        clear c4
        (first | rw [c4b0] | (simp only [i64_w, i32_w]; rw [c4b0]) | skip)
        have H' := Aside0.mk H
        clear H
        go_wp2
        go_meet
        case rel => exact ⟨_, (false), (by first | rfl | (simp; done) | (simp [*]; done) | (simp; unfold wrap64; omega)), H', ⟨by first | omega | exact Nat.le_refl _⟩, by repeat (first | exact Drawn0.refl _ | apply Drawn0.step)⟩
    case rest =>
      clear HC3
      try clear c2
      try clear c2b0
      try clear p2
      try clear c4
      try clear c4b0
      obtain ⟨kq, x6_2, rfl, HA, HJ2, ⟨mc2, rfl⟩⟩ := hcut
      cases kq with
      | zero => exact absurd HA.out (by simp [cringleref02_size.j0])
      | succ kj2 =>
        have H := HA.out
        clear HA
        simp only [cringleref02_size.j0] at H
        by_cases c5 : x6_2 = true
        · subst c5
          have H1 : (some 2) = some r := by rw [if_pos rfl] at H; exact H
          clear H
          have H := H1
          clear H1
          obtain rfl := Option.some.inj H
          go_wp2
          go_ret
          exact ⟨by first | rfl | (simp; done) | (simp [*]; done) | (simp; unfold wrap64; omega), by repeat (first | exact Drawn0.refl _ | apply Drawn0.step)⟩
        · replace c5 := Bool.eq_false_iff.mpr c5
          subst c5
          have H1 : (if a0 ≥ 224 then (cringleref02_size.j1 kj2 a0 (decide (a0 ≤ 239))) else (cringleref02_size.j1 kj2 a0 false)) = some r := by rw [if_neg (show ¬ (false = true) by decide)] at H; exact H
          clear H
          have H := H1
          clear H1
          have HC6 := Aside0.mk H
          clear H
          go_upto_region 5 with (fail)
          go_cut [13] (fun v13 wc => ∃ (kq : Nat) (x13_5 : Bool), v13 = .bool x13_5 ∧ Aside0 (cringleref02_size.j1 kq a0 x13_5 = some r) ∧ Aside0 (kq ≤ kj2) ∧ Drawn0 w wc)
          case first =>
            have H := HC6.out
            clear HC6
            by_cases c7 : a0 ≥ 224
            · rw [if_pos c7] at H
              have c7b0 : decide (224 ≤ a0) = true := decide_eq_true c7
              clear c7
              (first | rw [c7b0] | (simp only [i64_w, i32_w]; rw [c7b0]) | skip)
              have H' := Aside0.mk H
              clear H
              go_wp2
              go_meet
              case rel => exact ⟨_, (decide (a0 ≤ 239)), (by first | rfl | (simp; done) | (simp [*]; done) | (simp; unfold wrap64; omega)), H', ⟨by have := HJ2.out; first | omega | exact Nat.le_refl _⟩, by repeat (first | exact Drawn0.refl _ | apply Drawn0.step)⟩
            · rw [if_neg c7] at H
              have c7b0 : decide (224 ≤ a0) = false := decide_eq_false c7
              clear c7
              (first | rw [c7b0] | (simp only [i64_w, i32_w]; rw [c7b0]) | skip)
              have H' := Aside0.mk H
              clear H
              go_wp2
              go_meet
              case rel => exact ⟨_, (false), (by first | rfl | (simp; done) | (simp [*]; done) | (simp; unfold wrap64; omega)), H', ⟨by have := HJ2.out; first | omega | exact Nat.le_refl _⟩, by repeat (first | exact Drawn0.refl _ | apply Drawn0.step)⟩
          case rest =>
            clear HC6
            try clear c2
            try clear c2b0
            try clear p2
            try clear c4
            try clear c4b0
            try clear c5
            try clear p6
            try clear c7
            try clear c7b0
            try clear p2
            obtain ⟨kq, x13_5, rfl, HA, HJ5, ⟨mc5, rfl⟩⟩ := hcut
            cases kq with
            | zero => exact absurd HA.out (by simp [cringleref02_size.j1])
            | succ kj5 =>
              have H := HA.out
              clear HA
              simp only [cringleref02_size.j1] at H
              by_cases c8 : x13_5 = true
              · subst c8
                have H1 : (some 3) = some r := by rw [if_pos rfl] at H; exact H
                clear H
                have H := H1
                clear H1
                obtain rfl := Option.some.inj H
                go_wp2
                go_ret
                exact ⟨by first | rfl | (simp; done) | (simp [*]; done) | (simp; unfold wrap64; omega), by repeat (first | exact Drawn0.refl _ | apply Drawn0.step)⟩
              · replace c8 := Bool.eq_false_iff.mpr c8
                subst c8
                have H1 : (if a0 ≥ 240 then (if a0 ≤ 244 then (some 4) else (some 0)) else (some 0)) = some r := by rw [if_neg (show ¬ (false = true) by decide)] at H; exact H
                clear H
                have H := H1
                clear H1
                by_cases c9 : a0 ≥ 240
                · rw [if_pos c9] at H
                  have c9b0 : decide (240 ≤ a0) = true := decide_eq_true c9
                  clear c9
                  by_cases c10 : a0 ≤ 244
                  · rw [if_pos c10] at H
                    have c10b0 : decide (a0 ≤ 244) = true := decide_eq_true c10
                    clear c10
                    obtain rfl := Option.some.inj H
                    go_wp2
                    go_ret
                    exact ⟨by first | rfl | (simp; done) | (simp [*]; done) | (simp; unfold wrap64; omega), by repeat (first | exact Drawn0.refl _ | apply Drawn0.step)⟩
                  · rw [if_neg c10] at H
                    have c10b0 : decide (a0 ≤ 244) = false := decide_eq_false c10
                    clear c10
                    obtain rfl := Option.some.inj H
                    go_wp2
                    go_ret
                    exact ⟨by first | rfl | (simp; done) | (simp [*]; done) | (simp; unfold wrap64; omega), by repeat (first | exact Drawn0.refl _ | apply Drawn0.step)⟩
                · rw [if_neg c9] at H
                  have c9b0 : decide (240 ≤ a0) = false := decide_eq_false c9
                  clear c9
                  obtain rfl := Option.some.inj H
                  go_wp2
                  go_ret
                  exact ⟨by first | rfl | (simp; done) | (simp [*]; done) | (simp; unfold wrap64; omega), by repeat (first | exact Drawn0.refl _ | apply Drawn0.step)⟩

end Go.Proofs.YtekijemacjpceaaDoor.Q
