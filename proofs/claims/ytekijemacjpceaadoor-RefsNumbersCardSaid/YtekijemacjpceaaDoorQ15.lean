-- printed by a program of the session's own; Lean checks it
import Derived.Test.YtekijemacjpceaaDoorQ0
import Derived.Test.YtekijemacjpceaaDoorQ6
import Derived.Test.YtekijemacjpceaaDoorQ14
namespace Go.Proofs.YtekijemacjpceaaDoor.Q
open Go.RowKit Go.Proofs.YtekijemacjpceaaDoorW.PrintWords Go.Proofs.YtekijemacjpceaaDoorW.PrintLast Go.Proofs.YtekijemacjpceaaDoorW.PrintMore
attribute [local go_sem] max2_int min2_int max_two min_two max_three min_three max_four min_four   -- for this text's walks alone
set_option linter.unusedVariables false
set_option linter.unusedSimpArgs false

/-! ### cringleref02_IsText: function 21 -/
def cringleref02_IsText.l0 : Nat → ByteArray → Option (Bool)
  | 0, _ => none
  | k + 1, x0 => if (x0.size : Int) > 0 then ((cringleref02_Next.f k x0).bind fun bt308 => (if bt308.2.2 = 0 then (if 0 ≤ bt308.2.1 then (if bt308.2.1 ≤ (x0.size : Int) then (cringleref02_IsText.l0 k (x0.extract (bt308.2.1 : Int).toNat x0.size)) else (none)) else (none)) else (some false))) else (some true)
def cringleref02_IsText.f (k : Nat) (a0 : ByteArray) : Option (Bool) := cringleref02_IsText.l0 k a0
theorem cringleref02_IsText.mono_l : ∀ k, (∀ y0, LeO (cringleref02_IsText.l0 k y0) (cringleref02_IsText.l0 (k + 1) y0))
  | 0 => fun _ r h => by simp [cringleref02_IsText.l0] at h
  | k + 1 => by
    have ih0 := cringleref02_IsText.mono_l k
    · intro y0
      unfold cringleref02_IsText.l0
      repeat' first
      | (with_reducible exact ih0 _)
      | (with_reducible exact cringleref02_Next.mono _ _)
      | (with_reducible exact LeO.refl _)
      | (with_reducible exact LeO.none _)
      | (with_reducible refine LeO.ite ?_ ?_)
      | (with_reducible refine LeO.bind ?_ (fun _ => ?_))
      | exact ih0 _
      | exact cringleref02_Next.mono _ _
      | exact LeO.none _
      | refine LeO.ite ?_ ?_
      | refine LeO.bind ?_ (fun _ => ?_)
theorem cringleref02_IsText.mono : ∀ a0 k, LeO (cringleref02_IsText.f k a0) (cringleref02_IsText.f (k + 1) a0) := by
  intro a0 k
  have ih0 := cringleref02_IsText.mono_l k
  unfold cringleref02_IsText.f
  repeat' first
      | (with_reducible exact ih0 _)
      | (with_reducible exact cringleref02_Next.mono _ _)
      | (with_reducible exact LeO.refl _)
      | (with_reducible exact LeO.none _)
      | (with_reducible refine LeO.ite ?_ ?_)
      | (with_reducible refine LeO.bind ?_ (fun _ => ?_))
      | exact ih0 _
      | exact cringleref02_Next.mono _ _
      | exact LeO.none _
      | refine LeO.ite ?_ ?_
      | refine LeO.bind ?_ (fun _ => ?_)
set_option maxHeartbeats 8000000 in
set_option maxRecDepth 100000 in
theorem cringleref02_IsText.calls (k : Nat) (a0 : ByteArray) (r : Bool) (w : World) (h : cringleref02_IsText.f k a0 = some r) :
    Calls Tryd.prog 21 #[.string a0] w fun e w' => e = .returned (.bool r) ∧ Drawn0 w w' := by
  have H : (cringleref02_IsText.l0 k a0) = some r := h
  clear h
  have H' := Aside0.mk H
  clear H
  go_enter Tryd.func21, Tryd.ntmps21
  go_wp2
  go_loopg [0] k (fun kq v0 w' => ∃ (x0_1 : ByteArray), v0 = .string x0_1 ∧ Aside0 (cringleref02_IsText.l0 kq x0_1 = some r) ∧ Aside0 (kq ≤ k) ∧ Drawn0 w w')
  case atStart => exact ⟨(a0), (by first | rfl | (simp; done) | (simp [*]; done) | (simp; unfold wrap64; omega)), H', ⟨Nat.le_refl _⟩, by repeat (first | exact Drawn0.refl _ | apply Drawn0.step)⟩
  case round =>
    clear H'
    obtain ⟨x0_1, rfl, HA, HK1, ⟨m1, rfl⟩⟩ := hrel
    cases gk with
    | zero => exact absurd HA.out (by simp [cringleref02_IsText.l0])
    | succ k1 =>
      have H := HA.out
      clear HA
      simp only [cringleref02_IsText.l0] at H
      by_cases c2 : (x0_1.size : Int) > 0
      · rw [if_pos c2] at H
        have c2b0 : decide (0 < (x0_1.size : Int)) = true := decide_eq_true c2
        have c2b1 : decide (0 < x0_1.size) = true := decide_eq_true (by omega)
        clear c2
        replace H := Option.bind_eq_some_iff.mp H
        obtain ⟨⟨t308, t309, t310⟩, A30, H⟩ := H
        replace H : (if t310 = 0 then (if 0 ≤ t309 then (if t309 ≤ (x0_1.size : Int) then (cringleref02_IsText.l0 k1 (x0_1.extract (t309 : Int).toNat x0_1.size)) else (none)) else (none)) else (some false)) = some r := H
        have A3 := Aside0.mk A30
        clear A30
        by_cases c4 : t310 = 0
        · rw [if_pos c4] at H
          have c4b0 : (t310 == 0) = true := beq_iff_eq.mpr c4
          have c4b1 : (t310 != 0) = false := bne_eq_false_iff_eq.mpr c4
          clear c4
          by_cases c5 : 0 ≤ t309
          · rw [if_pos c5] at H
            have c5b0 := eq_true c5
            have c5b1 : decide (0 ≤ t309) = true := decide_eq_true c5
            clear c5
            by_cases c6 : t309 ≤ (x0_1.size : Int)
            · rw [if_pos c6] at H
              have c6b0 := eq_true c6
              have c6b1 : decide (t309 ≤ (x0_1.size : Int)) = true := decide_eq_true c6
              clear c6
              have H' := Aside0.mk H
              clear H
              go_wp2_with (first | ((with_reducible refine gate_callee (f := 40) rfl ?_); refine goesL_ (some 11) rfl rfl Tryd.func40 (by kernel_rfl) rfl #[.string x0_1] rfl (by (try simp only [List.map_toArray, List.map_cons, List.map_nil]); first | done | rfl | (simp only [List.length_drop, List.length_take]; rfl)) ?_; (with_reducible refine (cringleref02_Next.calls k1 x0_1 t308 t309 t310 _ A3.out).mono ?_); rintro e w' ⟨rfl, ⟨nd, rfl⟩⟩; refine ⟨_, rfl, ?_⟩))
              go_roundg k1
              case measure => have := HK1.out; omega
              case rel => exact ⟨(x0_1.extract (t309 : Int).toNat x0_1.size), (by first | rfl | (simp; done) | (simp [*]; done) | (simp; unfold wrap64; omega)), H', ⟨by have := HK1.out; omega⟩, by repeat (first | exact Drawn0.refl _ | apply Drawn0.step)⟩
            · rw [if_neg c6] at H
              exact absurd H (by simp)
          · rw [if_neg c5] at H
            exact absurd H (by simp)
        · rw [if_neg c4] at H
          have c4b0 : (t310 == 0) = false := beq_eq_false_iff_ne.mpr c4
          have c4b1 : (t310 != 0) = true := bne_iff_ne.mpr c4
          obtain rfl := Option.some.inj H
          go_wp2_with (first | ((with_reducible refine gate_callee (f := 40) rfl ?_); refine goesL_ (some 11) rfl rfl Tryd.func40 (by kernel_rfl) rfl #[.string x0_1] rfl (by (try simp only [List.map_toArray, List.map_cons, List.map_nil]); first | done | rfl | (simp only [List.length_drop, List.length_take]; rfl)) ?_; (with_reducible refine (cringleref02_Next.calls k1 x0_1 t308 t309 t310 _ A3.out).mono ?_); rintro e w' ⟨rfl, ⟨nd, rfl⟩⟩; refine ⟨_, rfl, ?_⟩))
          go_ret
          exact ⟨by first | rfl | (simp; done) | (simp [*]; done) | (simp; unfold wrap64; omega), by repeat (first | exact Drawn0.refl _ | apply Drawn0.step)⟩
      · rw [if_neg c2] at H
        have c2b0 : decide (0 < (x0_1.size : Int)) = false := decide_eq_false c2
        have c2b1 : decide (0 < x0_1.size) = false := decide_eq_false (by omega)
        clear c2
        obtain rfl := Option.some.inj H
        go_wp2
        go_ret
        exact ⟨by first | rfl | (simp; done) | (simp [*]; done) | (simp; unfold wrap64; omega), by repeat (first | exact Drawn0.refl _ | apply Drawn0.step)⟩

/-! ### cringlelaw11_RefsText: function 7 -/
def cringlelaw11_RefsText.l0 : Nat → ByteArray → ByteArray → Bool → Int → Int → Option (Bool)
  | 0, _, _, _, _, _ => none
  | k + 1, x0, x5, x6, x15, x16 => if x16 < x15 then (if x6 = true then (cringlelaw11_RefsText.l0 k x0 x5 true x15 (wrap64 (x16 + 1))) else (if 0 ≤ x16 then (if x16 < (x0.size : Int) then (cringlelaw11_RefsText.l0 k x0 x5 ((bt x0 x16) == 38) x15 (wrap64 (x16 + 1))) else (none)) else (none))) else ((cringleref02_IsText.f k x0).bind fun t314 => (if t314 = true then ((cringleref02_IsText.f k x5).bind fun t315 => (if t315 = true then (if x6 = true then (if (x5.size : Int) ≤ (x0.size : Int) then ((cringlelaw11_alive.f k).bind fun t316 => (some t316)) else (some false)) else (if x5.toList = x0.toList then (if (x5.size : Int) ≤ (x0.size : Int) then ((cringlelaw11_alive.f k).bind fun t317 => (some t317)) else (some false)) else (some false))) else (some false))) else (if x6 = true then (if (x5.size : Int) ≤ (x0.size : Int) then ((cringlelaw11_alive.f k).bind fun t318 => (some t318)) else (some false)) else (if x5.toList = x0.toList then (if (x5.size : Int) ≤ (x0.size : Int) then ((cringlelaw11_alive.f k).bind fun t319 => (some t319)) else (some false)) else (some false)))))
def cringlelaw11_RefsText.f (k : Nat) (a0 : ByteArray) (a1 : Bool) : Option (Bool) := (cringlelaw11_long.f a0).bind fun t311 => (if t311 = true then ((cringlelaw11_alive.f k).bind fun t312 => (some t312)) else ((refs_Decode.f k a0 a1).bind fun t313 => (cringlelaw11_RefsText.l0 k a0 t313 false (a0.size : Int) 0)))
theorem cringlelaw11_RefsText.mono_l : ∀ k, (∀ y0 y1 y2 y3 y4, LeO (cringlelaw11_RefsText.l0 k y0 y1 y2 y3 y4) (cringlelaw11_RefsText.l0 (k + 1) y0 y1 y2 y3 y4))
  | 0 => fun _ _ _ _ _ r h => by simp [cringlelaw11_RefsText.l0] at h
  | k + 1 => by
    have ih0 := cringlelaw11_RefsText.mono_l k
    · intro y0 y1 y2 y3 y4
      unfold cringlelaw11_RefsText.l0
      repeat' first
      | (with_reducible exact ih0 _ _ _ _ _)
      | (with_reducible exact cringlelaw11_alive.mono _)
      | (with_reducible exact cringleref02_IsText.mono _ _)
      | (with_reducible exact refs_Decode.mono _ _ _)
      | (with_reducible exact LeO.refl _)
      | (with_reducible exact LeO.none _)
      | (with_reducible refine LeO.ite ?_ ?_)
      | (with_reducible refine LeO.bind ?_ (fun _ => ?_))
      | exact ih0 _ _ _ _ _
      | exact cringlelaw11_alive.mono _
      | exact cringleref02_IsText.mono _ _
      | exact refs_Decode.mono _ _ _
      | exact LeO.none _
      | refine LeO.ite ?_ ?_
      | refine LeO.bind ?_ (fun _ => ?_)
theorem cringlelaw11_RefsText.mono : ∀ a0 a1 k, LeO (cringlelaw11_RefsText.f k a0 a1) (cringlelaw11_RefsText.f (k + 1) a0 a1) := by
  intro a0 a1 k
  have ih0 := cringlelaw11_RefsText.mono_l k
  unfold cringlelaw11_RefsText.f
  repeat' first
      | (with_reducible exact ih0 _ _ _ _ _)
      | (with_reducible exact cringlelaw11_alive.mono _)
      | (with_reducible exact cringleref02_IsText.mono _ _)
      | (with_reducible exact refs_Decode.mono _ _ _)
      | (with_reducible exact LeO.refl _)
      | (with_reducible exact LeO.none _)
      | (with_reducible refine LeO.ite ?_ ?_)
      | (with_reducible refine LeO.bind ?_ (fun _ => ?_))
      | exact ih0 _ _ _ _ _
      | exact cringlelaw11_alive.mono _
      | exact cringleref02_IsText.mono _ _
      | exact refs_Decode.mono _ _ _
      | exact LeO.none _
      | refine LeO.ite ?_ ?_
      | refine LeO.bind ?_ (fun _ => ?_)
set_option maxHeartbeats 8000000 in
set_option maxRecDepth 100000 in
theorem cringlelaw11_RefsText.calls (k : Nat) (a0 : ByteArray) (a1 : Bool) (r : Bool) (w : World) (h : cringlelaw11_RefsText.f k a0 a1 = some r) (htrue : Aside0 (r = true)) (TT_ : Aside0 (Go.Proofs.YtekijemacjpceaaDoor.Tabs w) := by first | exact TT_ | exact ⟨Go.Proofs.YtekijemacjpceaaDoor.Tabs.below TT_.out (by repeat (first | (with_reducible first | exact HB.out | apply below_alloc | apply pw_below_drewN | apply below_drew1) | exact HB.out | (refine below_set ?_ ?_; rotate_left; exact (Aside0.out (by assumption)))))⟩) :
    Calls Tryd.prog 7 #[.string a0, .bool a1] w fun e w' => e = .returned (.bool r) ∧ Below w.heap.size w w' := by
  have HB := Aside0.mk (Below.refl w.heap.size w)
  have H : ((cringlelaw11_long.f a0).bind fun t311 => (if t311 = true then ((cringlelaw11_alive.f k).bind fun t312 => (some t312)) else ((refs_Decode.f k a0 a1).bind fun t313 => (cringlelaw11_RefsText.l0 k a0 t313 false (a0.size : Int) 0)))) = some r := h
  clear h
  replace H := Option.bind_eq_some_iff.mp H
  obtain ⟨t311, A30, H⟩ := H
  replace H : (if t311 = true then ((cringlelaw11_alive.f k).bind fun t312 => (some t312)) else ((refs_Decode.f k a0 a1).bind fun t313 => (cringlelaw11_RefsText.l0 k a0 t313 false (a0.size : Int) 0))) = some r := H
  have A3 := Aside0.mk A30
  clear A30
  by_cases c4 : t311 = true
  · subst c4
    have H1 : ((cringlelaw11_alive.f k).bind fun t312 => (some t312)) = some r := by rw [if_pos rfl] at H; exact H
    clear H
    have H := H1
    clear H1
    replace H := Option.bind_eq_some_iff.mp H
    obtain ⟨t312, A50, H⟩ := H
    replace H : (some t312) = some r := H
    have A5 := Aside0.mk A50
    clear A50
    obtain rfl := Option.some.inj H
    go_enter Tryd.func7, Tryd.ntmps7
    go_wp2_with (first | ((with_reducible refine gate_callee (f := 14) rfl ?_); refine goesL_ (some 9) rfl rfl Tryd.func14 (by kernel_rfl) rfl #[.string a0] rfl (by (try simp only [List.map_toArray, List.map_cons, List.map_nil]); first | done | rfl | (simp only [List.length_drop, List.length_take]; rfl)) ?_; (with_reducible refine (cringlelaw11_long.calls a0 true _ A3.out).mono ?_); rintro e w' ⟨rfl, ⟨nd, rfl⟩⟩; refine ⟨_, rfl, ?_⟩) | ((with_reducible refine gate_callee (f := 13) rfl ?_); refine goesL_ (some 10) rfl rfl Tryd.func13 (by kernel_rfl) rfl #[] rfl (by (try simp only [List.map_toArray, List.map_cons, List.map_nil]); first | done | rfl | (simp only [List.length_drop, List.length_take]; rfl)) ?_; (with_reducible refine (cringlelaw11_alive.calls k  t312 _ A5.out).mono ?_); rintro e w6 ⟨rfl, hb⟩; refine ⟨_, rfl, ?_⟩; have n0_ := Aside0.mk (below_step (by repeat (first | (with_reducible first | exact HB.out | apply below_alloc | apply pw_below_drewN | apply below_drew1) | exact HB.out)) hb); clear HB; have HB := n0_; clear n0_; (try clear hb); (try clear hb2); (try clear hk); (try clear hi)))
    go_ret
    exact ⟨by first | rfl | (simp [errW_none, errW_some] <;> rfl) | (simp [*, errW_none, errW_some] <;> rfl), by repeat (first | (with_reducible first | exact HB.out | apply below_alloc | apply pw_below_drewN | apply below_drew1) | exact HB.out)⟩
  · replace c4 := Bool.eq_false_iff.mpr c4
    subst c4
    have H1 : ((refs_Decode.f k a0 a1).bind fun t313 => (cringlelaw11_RefsText.l0 k a0 t313 false (a0.size : Int) 0)) = some r := by rw [if_neg (show ¬ (false = true) by decide)] at H; exact H
    clear H
    have H := H1
    clear H1
    replace H := Option.bind_eq_some_iff.mp H
    obtain ⟨t313, A70, H⟩ := H
    replace H : (cringlelaw11_RefsText.l0 k a0 t313 false (a0.size : Int) 0) = some r := H
    have A7 := Aside0.mk A70
    clear A70
    have H' := Aside0.mk H
    clear H
    go_enter Tryd.func7, Tryd.ntmps7
    go_wp2_with (first | ((with_reducible refine gate_callee (f := 14) rfl ?_); refine goesL_ (some 9) rfl rfl Tryd.func14 (by kernel_rfl) rfl #[.string a0] rfl (by (try simp only [List.map_toArray, List.map_cons, List.map_nil]); first | done | rfl | (simp only [List.length_drop, List.length_take]; rfl)) ?_; (with_reducible refine (cringlelaw11_long.calls a0 false _ A3.out).mono ?_); rintro e w' ⟨rfl, ⟨nd, rfl⟩⟩; refine ⟨_, rfl, ?_⟩) | ((with_reducible refine gate_callee (f := 17) rfl ?_); refine goesL_ (some 13) rfl rfl Tryd.func17 (by kernel_rfl) rfl #[.string a0, .bool a1] rfl (by (try simp only [List.map_toArray, List.map_cons, List.map_nil]); first | done | rfl | (simp only [List.length_drop, List.length_take]; rfl)) ?_; (with_reducible refine (refs_Decode.calls k a0 a1 t313 _ A7.out).mono ?_); rintro e w8 ⟨rfl, hb⟩; refine ⟨_, rfl, ?_⟩; have n0_ := Aside0.mk (below_step (by repeat (first | (with_reducible first | exact HB.out | apply below_alloc | apply pw_below_drewN | apply below_drew1) | exact HB.out)) hb); clear HB; have HB := n0_; clear n0_; (try clear hb); (try clear hb2); (try clear hk); (try clear hi)))
    go_loopg [6, 16] k (fun kq v6 v16 w' => ∃ (x6_1 : Bool) (x16_1 : Int), v6 = .bool x6_1 ∧ v16 = .int .i64 x16_1 ∧ Aside0 (cringlelaw11_RefsText.l0 kq a0 t313 x6_1 (a0.size : Int) x16_1 = some r) ∧ Aside0 (kq ≤ k) ∧ Aside0 (Below w.heap.size w w'))
    case atStart => exact ⟨(false), (0), (by first | rfl | (simp; done) | (simp [*]; done) | (simp; unfold wrap64; omega)), (by first | rfl | (simp; done) | (simp [*]; done) | (simp; unfold wrap64; omega)), H', ⟨Nat.le_refl _⟩, ⟨by repeat (first | (with_reducible first | exact HB.out | apply below_alloc | apply pw_below_drewN | apply below_drew1) | exact HB.out)⟩⟩
    case round =>
      clear H'
      try clear c1
      try clear p2
      try clear c4
      try clear p6
      try clear c7
      obtain ⟨x6_1, x16_1, rfl, rfl, HA, HK1, HB⟩ := hrel
      cases gk with
      | zero => exact absurd HA.out (by simp [cringlelaw11_RefsText.l0])
      | succ k1 =>
        have H := HA.out
        clear HA
        simp only [cringlelaw11_RefsText.l0] at H
        by_cases c9 : x16_1 < (a0.size : Int)
        · rw [if_pos c9] at H
          have c9b0 : decide (x16_1 < (a0.size : Int)) = true := decide_eq_true c9
          clear c9
          by_cases c10 : x6_1 = true
          · subst c10
            have H1 : (cringlelaw11_RefsText.l0 k1 a0 t313 true (a0.size : Int) (wrap64 (x16_1 + 1))) = some r := by rw [if_pos rfl] at H; exact H
            clear H
            have H := H1
            clear H1
            have H' := Aside0.mk H
            clear H
            go_wp2
            go_roundg k1
            case measure => have := HK1.out; omega
            case rel => exact ⟨(true), (wrap64 (x16_1 + 1)), (by first | rfl | (simp; done) | (simp [*]; done) | (simp; unfold wrap64; omega)), (by first | rfl | (simp; done) | (simp [*]; done) | (simp; unfold wrap64; omega)), H', ⟨by have := HK1.out; omega⟩, ⟨by repeat (first | (with_reducible first | exact HB.out | apply below_alloc | apply pw_below_drewN | apply below_drew1) | exact HB.out)⟩⟩
          · replace c10 := Bool.eq_false_iff.mpr c10
            subst c10
            have H1 : (if 0 ≤ x16_1 then (if x16_1 < (a0.size : Int) then (cringlelaw11_RefsText.l0 k1 a0 t313 ((bt a0 x16_1) == 38) (a0.size : Int) (wrap64 (x16_1 + 1))) else (none)) else (none)) = some r := by rw [if_neg (show ¬ (false = true) by decide)] at H; exact H
            clear H
            have H := H1
            clear H1
            by_cases c11 : 0 ≤ x16_1
            · rw [if_pos c11] at H
              have c11b0 : decide (0 ≤ x16_1) = true := decide_eq_true c11
              clear c11
              by_cases c12 : x16_1 < (a0.size : Int)
              · rw [if_pos c12] at H
                have c12b0 : decide (x16_1 < (a0.size : Int)) = true := decide_eq_true c12
                clear c12
                have H' := Aside0.mk H
                clear H
                have p13 : 0 ≤ (x16_1 : Int) := of_decide_eq_true (by first | (with_reducible assumption) | assumption)
                have q13 : x16_1 < (a0.size : Int) := of_decide_eq_true (by first | (with_reducible assumption) | assumption)
                have hx13 := bt_at a0 x16_1
                replace p13 := eq_true p13
                replace q13 := eq_true q13
                go_wp2
                go_roundg k1
                case measure => have := HK1.out; omega
                case rel => exact ⟨(((bt a0 x16_1) == 38)), (wrap64 (x16_1 + 1)), (by first | rfl | (simp; done) | (simp [*]; done) | (simp; unfold wrap64; omega)), (by first | rfl | (simp; done) | (simp [*]; done) | (simp; unfold wrap64; omega)), H', ⟨by have := HK1.out; omega⟩, ⟨by repeat (first | (with_reducible first | exact HB.out | apply below_alloc | apply pw_below_drewN | apply below_drew1) | exact HB.out)⟩⟩
              · rw [if_neg c12] at H
                exact absurd H (by simp)
            · rw [if_neg c11] at H
              exact absurd H (by simp)
        · rw [if_neg c9] at H
          have c9b0 : decide (x16_1 < (a0.size : Int)) = false := decide_eq_false c9
          clear c9
          replace H := Option.bind_eq_some_iff.mp H
          obtain ⟨t314, A140, H⟩ := H
          replace H : (if t314 = true then ((cringleref02_IsText.f k1 t313).bind fun t315 => (if t315 = true then (if x6_1 = true then (if (t313.size : Int) ≤ (a0.size : Int) then ((cringlelaw11_alive.f k1).bind fun t316 => (some t316)) else (some false)) else (if t313.toList = a0.toList then (if (t313.size : Int) ≤ (a0.size : Int) then ((cringlelaw11_alive.f k1).bind fun t317 => (some t317)) else (some false)) else (some false))) else (some false))) else (if x6_1 = true then (if (t313.size : Int) ≤ (a0.size : Int) then ((cringlelaw11_alive.f k1).bind fun t318 => (some t318)) else (some false)) else (if t313.toList = a0.toList then (if (t313.size : Int) ≤ (a0.size : Int) then ((cringlelaw11_alive.f k1).bind fun t319 => (some t319)) else (some false)) else (some false)))) = some r := H
          have A14 := Aside0.mk A140
          clear A140
          by_cases c15 : t314 = true
          · subst c15
            have H1 : ((cringleref02_IsText.f k1 t313).bind fun t315 => (if t315 = true then (if x6_1 = true then (if (t313.size : Int) ≤ (a0.size : Int) then ((cringlelaw11_alive.f k1).bind fun t316 => (some t316)) else (some false)) else (if t313.toList = a0.toList then (if (t313.size : Int) ≤ (a0.size : Int) then ((cringlelaw11_alive.f k1).bind fun t317 => (some t317)) else (some false)) else (some false))) else (some false))) = some r := by rw [if_pos rfl] at H; exact H
            clear H
            have H := H1
            clear H1
            replace H := Option.bind_eq_some_iff.mp H
            obtain ⟨t315, A160, H⟩ := H
            replace H : (if t315 = true then (if x6_1 = true then (if (t313.size : Int) ≤ (a0.size : Int) then ((cringlelaw11_alive.f k1).bind fun t316 => (some t316)) else (some false)) else (if t313.toList = a0.toList then (if (t313.size : Int) ≤ (a0.size : Int) then ((cringlelaw11_alive.f k1).bind fun t317 => (some t317)) else (some false)) else (some false))) else (some false)) = some r := H
            have A16 := Aside0.mk A160
            clear A160
            by_cases c17 : t315 = true
            · subst c17
              have H1 : (if x6_1 = true then (if (t313.size : Int) ≤ (a0.size : Int) then ((cringlelaw11_alive.f k1).bind fun t316 => (some t316)) else (some false)) else (if t313.toList = a0.toList then (if (t313.size : Int) ≤ (a0.size : Int) then ((cringlelaw11_alive.f k1).bind fun t317 => (some t317)) else (some false)) else (some false))) = some r := by rw [if_pos rfl] at H; exact H
              clear H
              have H := H1
              clear H1
              by_cases c18 : x6_1 = true
              · subst c18
                have H1 : (if (t313.size : Int) ≤ (a0.size : Int) then ((cringlelaw11_alive.f k1).bind fun t316 => (some t316)) else (some false)) = some r := by rw [if_pos rfl] at H; exact H
                clear H
                have H := H1
                clear H1
                by_cases c19 : (t313.size : Int) ≤ (a0.size : Int)
                · rw [if_pos c19] at H
                  have c19b0 : decide ((t313.size : Int) ≤ (a0.size : Int)) = true := decide_eq_true c19
                  have c19b1 : decide (t313.size ≤ a0.size) = true := decide_eq_true (Int.ofNat_le.mp c19)
                  clear c19
                  replace H := Option.bind_eq_some_iff.mp H
                  obtain ⟨t316, A200, H⟩ := H
                  replace H : (some t316) = some r := H
                  have A20 := Aside0.mk A200
                  clear A200
                  obtain rfl := Option.some.inj H
                  go_wp2_with (first | ((with_reducible refine gate_callee (f := 21) rfl ?_); refine goesL_ (some 28) rfl rfl Tryd.func21 (by kernel_rfl) rfl #[.string a0] rfl (by (try simp only [List.map_toArray, List.map_cons, List.map_nil]); first | done | rfl | (simp only [List.length_drop, List.length_take]; rfl)) ?_; (with_reducible refine (cringleref02_IsText.calls k1 a0 true _ A14.out).mono ?_); rintro e w' ⟨rfl, ⟨nd, rfl⟩⟩; refine ⟨_, rfl, ?_⟩) | (go_at_call 21; (with_reducible refine (cringleref02_IsText.calls k1 t313 true _ A16.out).mono ?_); rintro e w' ⟨rfl, ⟨nd, rfl⟩⟩) | (go_at_call 13; (with_reducible refine (cringlelaw11_alive.calls k1  t316 _ A20.out).mono ?_); rintro e w21 ⟨rfl, hb⟩; have n0_ := Aside0.mk (below_step (by repeat (first | (with_reducible first | exact HB.out | apply below_alloc | apply pw_below_drewN | apply below_drew1) | exact HB.out)) hb); clear HB; have HB := n0_; clear n0_; (try clear hb); (try clear hb2); (try clear hk); (try clear hi)))
                  go_ret
                  exact ⟨by first | rfl | (simp [errW_none, errW_some] <;> rfl) | (simp [*, errW_none, errW_some] <;> rfl), by repeat (first | (with_reducible first | exact HB.out | apply below_alloc | apply pw_below_drewN | apply below_drew1) | exact HB.out)⟩
                · rw [if_neg c19] at H
                  have c19b0 : decide ((t313.size : Int) ≤ (a0.size : Int)) = false := decide_eq_false c19
                  have c19b1 : decide (t313.size ≤ a0.size) = false := decide_eq_false (fun h => c19 (Int.ofNat_le.mpr h))
                  clear c19
                  exact absurd (Option.some.inj H) (by rw [htrue.out]; decide)
              · replace c18 := Bool.eq_false_iff.mpr c18
                subst c18
                have H1 : (if t313.toList = a0.toList then (if (t313.size : Int) ≤ (a0.size : Int) then ((cringlelaw11_alive.f k1).bind fun t317 => (some t317)) else (some false)) else (some false)) = some r := by rw [if_neg (show ¬ (false = true) by decide)] at H; exact H
                clear H
                have H := H1
                clear H1
                by_cases c22 : t313.toList = a0.toList
                · rw [if_pos c22] at H
                  have c22b0 : (t313.toList == a0.toList) = true := beq_iff_eq.mpr c22
                  have c22b1 : (t313.toList != a0.toList) = false := bne_eq_false_iff_eq.mpr c22
                  clear c22
                  by_cases c23 : (t313.size : Int) ≤ (a0.size : Int)
                  · rw [if_pos c23] at H
                    have c23b0 : decide ((t313.size : Int) ≤ (a0.size : Int)) = true := decide_eq_true c23
                    have c23b1 : decide (t313.size ≤ a0.size) = true := decide_eq_true (Int.ofNat_le.mp c23)
                    clear c23
                    replace H := Option.bind_eq_some_iff.mp H
                    obtain ⟨t317, A240, H⟩ := H
                    replace H : (some t317) = some r := H
                    have A24 := Aside0.mk A240
                    clear A240
                    obtain rfl := Option.some.inj H
                    go_wp2_with (first | ((with_reducible refine gate_callee (f := 21) rfl ?_); refine goesL_ (some 28) rfl rfl Tryd.func21 (by kernel_rfl) rfl #[.string a0] rfl (by (try simp only [List.map_toArray, List.map_cons, List.map_nil]); first | done | rfl | (simp only [List.length_drop, List.length_take]; rfl)) ?_; (with_reducible refine (cringleref02_IsText.calls k1 a0 true _ A14.out).mono ?_); rintro e w' ⟨rfl, ⟨nd, rfl⟩⟩; refine ⟨_, rfl, ?_⟩) | (go_at_call 21; (with_reducible refine (cringleref02_IsText.calls k1 t313 true _ A16.out).mono ?_); rintro e w' ⟨rfl, ⟨nd, rfl⟩⟩) | (go_at_call 13; (with_reducible refine (cringlelaw11_alive.calls k1  t317 _ A24.out).mono ?_); rintro e w25 ⟨rfl, hb⟩; have n0_ := Aside0.mk (below_step (by repeat (first | (with_reducible first | exact HB.out | apply below_alloc | apply pw_below_drewN | apply below_drew1) | exact HB.out)) hb); clear HB; have HB := n0_; clear n0_; (try clear hb); (try clear hb2); (try clear hk); (try clear hi)))
                    go_ret
                    exact ⟨by first | rfl | (simp [errW_none, errW_some] <;> rfl) | (simp [*, errW_none, errW_some] <;> rfl), by repeat (first | (with_reducible first | exact HB.out | apply below_alloc | apply pw_below_drewN | apply below_drew1) | exact HB.out)⟩
                  · rw [if_neg c23] at H
                    have c23b0 : decide ((t313.size : Int) ≤ (a0.size : Int)) = false := decide_eq_false c23
                    have c23b1 : decide (t313.size ≤ a0.size) = false := decide_eq_false (fun h => c23 (Int.ofNat_le.mpr h))
                    clear c23
                    exact absurd (Option.some.inj H) (by rw [htrue.out]; decide)
                · rw [if_neg c22] at H
                  have c22b0 : (t313.toList == a0.toList) = false := beq_eq_false_iff_ne.mpr c22
                  have c22b1 : (t313.toList != a0.toList) = true := bne_iff_ne.mpr c22
                  exact absurd (Option.some.inj H) (by rw [htrue.out]; decide)
            · replace c17 := Bool.eq_false_iff.mpr c17
              subst c17
              have H1 : (some false) = some r := by rw [if_neg (show ¬ (false = true) by decide)] at H; exact H
              clear H
              have H := H1
              clear H1
              exact absurd (Option.some.inj H) (by rw [htrue.out]; decide)
          · replace c15 := Bool.eq_false_iff.mpr c15
            subst c15
            have H1 : (if x6_1 = true then (if (t313.size : Int) ≤ (a0.size : Int) then ((cringlelaw11_alive.f k1).bind fun t318 => (some t318)) else (some false)) else (if t313.toList = a0.toList then (if (t313.size : Int) ≤ (a0.size : Int) then ((cringlelaw11_alive.f k1).bind fun t319 => (some t319)) else (some false)) else (some false))) = some r := by rw [if_neg (show ¬ (false = true) by decide)] at H; exact H
            clear H
            have H := H1
            clear H1
            by_cases c26 : x6_1 = true
            · subst c26
              have H1 : (if (t313.size : Int) ≤ (a0.size : Int) then ((cringlelaw11_alive.f k1).bind fun t318 => (some t318)) else (some false)) = some r := by rw [if_pos rfl] at H; exact H
              clear H
              have H := H1
              clear H1
              by_cases c27 : (t313.size : Int) ≤ (a0.size : Int)
              · rw [if_pos c27] at H
                have c27b0 : decide ((t313.size : Int) ≤ (a0.size : Int)) = true := decide_eq_true c27
                have c27b1 : decide (t313.size ≤ a0.size) = true := decide_eq_true (Int.ofNat_le.mp c27)
                clear c27
                replace H := Option.bind_eq_some_iff.mp H
                obtain ⟨t318, A280, H⟩ := H
                replace H : (some t318) = some r := H
                have A28 := Aside0.mk A280
                clear A280
                obtain rfl := Option.some.inj H
                go_wp2_with (first | ((with_reducible refine gate_callee (f := 21) rfl ?_); refine goesL_ (some 28) rfl rfl Tryd.func21 (by kernel_rfl) rfl #[.string a0] rfl (by (try simp only [List.map_toArray, List.map_cons, List.map_nil]); first | done | rfl | (simp only [List.length_drop, List.length_take]; rfl)) ?_; (with_reducible refine (cringleref02_IsText.calls k1 a0 false _ A14.out).mono ?_); rintro e w' ⟨rfl, ⟨nd, rfl⟩⟩; refine ⟨_, rfl, ?_⟩) | (go_at_call 13; (with_reducible refine (cringlelaw11_alive.calls k1  t318 _ A28.out).mono ?_); rintro e w29 ⟨rfl, hb⟩; have n0_ := Aside0.mk (below_step (by repeat (first | (with_reducible first | exact HB.out | apply below_alloc | apply pw_below_drewN | apply below_drew1) | exact HB.out)) hb); clear HB; have HB := n0_; clear n0_; (try clear hb); (try clear hb2); (try clear hk); (try clear hi)))
                go_ret
                exact ⟨by first | rfl | (simp [errW_none, errW_some] <;> rfl) | (simp [*, errW_none, errW_some] <;> rfl), by repeat (first | (with_reducible first | exact HB.out | apply below_alloc | apply pw_below_drewN | apply below_drew1) | exact HB.out)⟩
              · rw [if_neg c27] at H
                have c27b0 : decide ((t313.size : Int) ≤ (a0.size : Int)) = false := decide_eq_false c27
                have c27b1 : decide (t313.size ≤ a0.size) = false := decide_eq_false (fun h => c27 (Int.ofNat_le.mpr h))
                clear c27
                exact absurd (Option.some.inj H) (by rw [htrue.out]; decide)
            · replace c26 := Bool.eq_false_iff.mpr c26
              subst c26
              have H1 : (if t313.toList = a0.toList then (if (t313.size : Int) ≤ (a0.size : Int) then ((cringlelaw11_alive.f k1).bind fun t319 => (some t319)) else (some false)) else (some false)) = some r := by rw [if_neg (show ¬ (false = true) by decide)] at H; exact H
              clear H
              have H := H1
              clear H1
              by_cases c30 : t313.toList = a0.toList
              · rw [if_pos c30] at H
                have c30b0 : (t313.toList == a0.toList) = true := beq_iff_eq.mpr c30
                have c30b1 : (t313.toList != a0.toList) = false := bne_eq_false_iff_eq.mpr c30
                clear c30
                by_cases c31 : (t313.size : Int) ≤ (a0.size : Int)
                · rw [if_pos c31] at H
                  have c31b0 : decide ((t313.size : Int) ≤ (a0.size : Int)) = true := decide_eq_true c31
                  have c31b1 : decide (t313.size ≤ a0.size) = true := decide_eq_true (Int.ofNat_le.mp c31)
                  clear c31
                  replace H := Option.bind_eq_some_iff.mp H
                  obtain ⟨t319, A320, H⟩ := H
                  replace H : (some t319) = some r := H
                  have A32 := Aside0.mk A320
                  clear A320
                  obtain rfl := Option.some.inj H
                  go_wp2_with (first | ((with_reducible refine gate_callee (f := 21) rfl ?_); refine goesL_ (some 28) rfl rfl Tryd.func21 (by kernel_rfl) rfl #[.string a0] rfl (by (try simp only [List.map_toArray, List.map_cons, List.map_nil]); first | done | rfl | (simp only [List.length_drop, List.length_take]; rfl)) ?_; (with_reducible refine (cringleref02_IsText.calls k1 a0 false _ A14.out).mono ?_); rintro e w' ⟨rfl, ⟨nd, rfl⟩⟩; refine ⟨_, rfl, ?_⟩) | (go_at_call 13; (with_reducible refine (cringlelaw11_alive.calls k1  t319 _ A32.out).mono ?_); rintro e w33 ⟨rfl, hb⟩; have n0_ := Aside0.mk (below_step (by repeat (first | (with_reducible first | exact HB.out | apply below_alloc | apply pw_below_drewN | apply below_drew1) | exact HB.out)) hb); clear HB; have HB := n0_; clear n0_; (try clear hb); (try clear hb2); (try clear hk); (try clear hi)))
                  go_ret
                  exact ⟨by first | rfl | (simp [errW_none, errW_some] <;> rfl) | (simp [*, errW_none, errW_some] <;> rfl), by repeat (first | (with_reducible first | exact HB.out | apply below_alloc | apply pw_below_drewN | apply below_drew1) | exact HB.out)⟩
                · rw [if_neg c31] at H
                  have c31b0 : decide ((t313.size : Int) ≤ (a0.size : Int)) = false := decide_eq_false c31
                  have c31b1 : decide (t313.size ≤ a0.size) = false := decide_eq_false (fun h => c31 (Int.ofNat_le.mpr h))
                  clear c31
                  exact absurd (Option.some.inj H) (by rw [htrue.out]; decide)
              · rw [if_neg c30] at H
                have c30b0 : (t313.toList == a0.toList) = false := beq_eq_false_iff_ne.mpr c30
                have c30b1 : (t313.toList != a0.toList) = true := bne_iff_ne.mpr c30
                exact absurd (Option.some.inj H) (by rw [htrue.out]; decide)

end Go.Proofs.YtekijemacjpceaaDoor.Q
