-- printed by a program of the session's own; Lean checks it
import Derived.Test.YtmaeodkdddbhoaaDoorQ0
import Derived.Test.YtmaeodkdddbhoaaDoorQ1
import Derived.Test.YtmaeodkdddbhoaaDoorQ5
import Derived.Test.YtmaeodkdddbhoaaDoorQ6
namespace Go.Proofs.YtmaeodkdddbhoaaDoor.Q
open Go.RowKit Go.Proofs.YtmaeodkdddbhoaaDoorW.PrintWords Go.Proofs.YtmaeodkdddbhoaaDoorW.PrintLast Go.Proofs.YtmaeodkdddbhoaaDoorW.PrintMore
attribute [local go_sem] max2_int min2_int max_two min_two max_three min_three max_four min_four   -- for this text's walks alone
set_option linter.unusedVariables false
set_option linter.unusedSimpArgs false

/-! ### cringlelaw02_same: function 24 -/
def cringlelaw02_same.l0 : Nat → List Int → List Int → Int → Int → Option (Bool)
  | 0, _, _, _, _ => none
  | k + 1, x0, x1, x12, x13 => if x13 < x12 then (if 0 ≤ x13 then (if x13 < (x0.length : Int) then (if x13 < (x1.length : Int) then (if (rd x0 x13) = (rd x1 x13) then (cringlelaw02_same.l0 k x0 x1 x12 (wrap64 (x13 + 1))) else (some false)) else (none)) else (none)) else (none)) else (some true)
def cringlelaw02_same.f (k : Nat) (l0 : List Int) (l1 : List Int) : Option (Bool) := if (l0.length : Int) = (l1.length : Int) then (cringlelaw02_same.l0 k l0 l1 (l0.length : Int) 0) else (some false)
theorem cringlelaw02_same.mono_l : ∀ k, (∀ y0 y1 y2 y3, LeO (cringlelaw02_same.l0 k y0 y1 y2 y3) (cringlelaw02_same.l0 (k + 1) y0 y1 y2 y3))
  | 0 => fun _ _ _ _ r h => by simp [cringlelaw02_same.l0] at h
  | k + 1 => by
    have ih0 := cringlelaw02_same.mono_l k
    · intro y0 y1 y2 y3
      unfold cringlelaw02_same.l0
      repeat' first
      | (with_reducible exact ih0 _ _ _ _)
      | (with_reducible exact LeO.refl _)
      | (with_reducible exact LeO.none _)
      | (with_reducible refine LeO.ite ?_ ?_)
      | (with_reducible refine LeO.bind ?_ (fun _ => ?_))
      | exact ih0 _ _ _ _
      | exact LeO.none _
      | refine LeO.ite ?_ ?_
      | refine LeO.bind ?_ (fun _ => ?_)
theorem cringlelaw02_same.mono : ∀ a0 a1 k, LeO (cringlelaw02_same.f k a0 a1) (cringlelaw02_same.f (k + 1) a0 a1) := by
  intro a0 a1 k
  have ih0 := cringlelaw02_same.mono_l k
  unfold cringlelaw02_same.f
  repeat' first
      | (with_reducible exact ih0 _ _ _ _)
      | (with_reducible exact LeO.refl _)
      | (with_reducible exact LeO.none _)
      | (with_reducible refine LeO.ite ?_ ?_)
      | (with_reducible refine LeO.bind ?_ (fun _ => ?_))
      | exact ih0 _ _ _ _
      | exact LeO.none _
      | refine LeO.ite ?_ ?_
      | refine LeO.bind ?_ (fun _ => ?_)
set_option maxHeartbeats 8000000 in
set_option maxRecDepth 100000 in
theorem cringlelaw02_same.calls (k : Nat) (A0 : Option Addr) (c0 : Nat) (l0 : List Int) (A1 : Option Addr) (c1 : Nat) (l1 : List Int) (r : Bool) (w : World) (hr0 : Kd.C (Kd.int .i32) w A0 l0.length l0) (hc0 : l0.length ≤ c0) (hr1 : Kd.C (Kd.int .i32) w A1 l1.length l1) (hc1 : l1.length ≤ c1) (h : cringlelaw02_same.f k l0 l1 = some r) :
    Calls Tryd.prog 24 #[.slice A0 l0.length c0, .slice A1 l1.length c1] w fun e w' => e = .returned (.bool r) ∧ Drawn0 w w' := by
  have HR0 := Aside0.mk hr0
  have HC0 := Aside0.mk hc0
  clear hr0 hc0
  have HR1 := Aside0.mk hr1
  have HC1 := Aside0.mk hc1
  clear hr1 hc1
  have H : (if (l0.length : Int) = (l1.length : Int) then (cringlelaw02_same.l0 k l0 l1 (l0.length : Int) 0) else (some false)) = some r := h
  clear h
  by_cases c3 : (l0.length : Int) = (l1.length : Int)
  · rw [if_pos c3] at H
    have c3b0 : ((l0.length : Int) == (l1.length : Int)) = true := beq_iff_eq.mpr c3
    have c3b1 : ((l0.length : Int) != (l1.length : Int)) = false := bne_eq_false_iff_eq.mpr c3
    have c3b2 : (l0.length == l1.length) = true := by first | simpa using c3 | (simp at c3 ⊢; omega)
    clear c3
    have H' := Aside0.mk H
    clear H
    go_enter Tryd.func24, Tryd.ntmps24
    go_wp2
    repeat (go_quiet (fail); try go_wp2)
    go_loopg [13] k (fun kq v13 w' => ∃ (x13_1 : Int), v13 = .int .i64 x13_1 ∧ Aside0 (cringlelaw02_same.l0 kq l0 l1 (l0.length : Int) x13_1 = some r) ∧ Aside0 (kq ≤ k) ∧ Drawn0 w w')
    case atStart => exact ⟨(0), (by first | rfl | (simp; done) | (simp [*]; done)), H', ⟨Nat.le_refl _⟩, by repeat (first | exact Drawn0.refl _ | apply Drawn0.step)⟩
    case round =>
      clear H'
      try clear c1
      try clear c2
      try clear p2
      try clear c3
      try clear c3b0
      try clear c3b1
      try clear c3b2
      obtain ⟨x13_1, rfl, HA, HK1, ⟨m1, rfl⟩⟩ := hrel
      cases gk with
      | zero => exact absurd HA.out (by simp [cringlelaw02_same.l0])
      | succ k1 =>
        have H := HA.out
        clear HA
        simp only [cringlelaw02_same.l0] at H
        by_cases c4 : x13_1 < (l0.length : Int)
        · rw [if_pos c4] at H
          have c4b0 : decide (x13_1 < (l0.length : Int)) = true := decide_eq_true c4
          clear c4
          by_cases c5 : 0 ≤ x13_1
          · rw [if_pos c5] at H
            have c5b0 : decide (0 ≤ x13_1) = true := decide_eq_true c5
            clear c5
            by_cases c6 : x13_1 < (l0.length : Int)
            · rw [if_pos c6] at H
              have c6b0 : decide (x13_1 < (l0.length : Int)) = true := decide_eq_true c6
              clear c6
              by_cases c7 : x13_1 < (l1.length : Int)
              · rw [if_pos c7] at H
                have c7b0 : decide (x13_1 < (l1.length : Int)) = true := decide_eq_true c7
                clear c7
                by_cases c8 : (rd l0 x13_1) = (rd l1 x13_1)
                · rw [if_pos c8] at H
                  have c8b0 : ((rd l0 x13_1) == (rd l1 x13_1)) = true := beq_iff_eq.mpr c8
                  have c8b1 : ((rd l0 x13_1) != (rd l1 x13_1)) = false := bne_eq_false_iff_eq.mpr c8
                  clear c8
                  have H' := Aside0.mk H
                  clear H
                  have p193 : 0 ≤ (x13_1 : Int) := of_decide_eq_true (by first | (with_reducible assumption) | assumption)
                  have q193 : x13_1 < (l0.length : Int) := of_decide_eq_true (by first | (with_reducible assumption) | assumption)
                  obtain ⟨ad193, e193, hx193_0⟩ := Kd.at_int HR0.out x13_1 p193 q193
                  cases e193
                  replace p193 := eq_true p193
                  replace q193 := eq_true q193
                  have p194 : 0 ≤ (x13_1 : Int) := of_decide_eq_true (by first | (with_reducible assumption) | assumption)
                  have q194 : x13_1 < (l1.length : Int) := of_decide_eq_true (by first | (with_reducible assumption) | assumption)
                  obtain ⟨ad194, e194, hx194_0⟩ := Kd.at_int HR1.out x13_1 p194 q194
                  cases e194
                  replace p194 := eq_true p194
                  replace q194 := eq_true q194
                  go_wp2
                  repeat (go_quiet (fail); try go_wp2)
                  go_roundg k1
                  case measure => have := HK1.out; omega
                  case rel => exact ⟨(wrap64 (x13_1 + 1)), (by first | rfl | (simp; done) | (simp [*]; done)), H', ⟨by have := HK1.out; omega⟩, by repeat (first | exact Drawn0.refl _ | apply Drawn0.step)⟩
                · rw [if_neg c8] at H
                  have c8b0 : ((rd l0 x13_1) == (rd l1 x13_1)) = false := beq_eq_false_iff_ne.mpr c8
                  have c8b1 : ((rd l0 x13_1) != (rd l1 x13_1)) = true := bne_iff_ne.mpr c8
                  obtain rfl := Option.some.inj H
                  have p193 : 0 ≤ (x13_1 : Int) := of_decide_eq_true (by first | (with_reducible assumption) | assumption)
                  have q193 : x13_1 < (l0.length : Int) := of_decide_eq_true (by first | (with_reducible assumption) | assumption)
                  obtain ⟨ad193, e193, hx193_0⟩ := Kd.at_int HR0.out x13_1 p193 q193
                  cases e193
                  replace p193 := eq_true p193
                  replace q193 := eq_true q193
                  have p194 : 0 ≤ (x13_1 : Int) := of_decide_eq_true (by first | (with_reducible assumption) | assumption)
                  have q194 : x13_1 < (l1.length : Int) := of_decide_eq_true (by first | (with_reducible assumption) | assumption)
                  obtain ⟨ad194, e194, hx194_0⟩ := Kd.at_int HR1.out x13_1 p194 q194
                  cases e194
                  replace p194 := eq_true p194
                  replace q194 := eq_true q194
                  go_wp2
                  repeat (go_quiet (fail); try go_wp2)
                  go_ret
                  exact ⟨by first | rfl | (simp; done) | (simp [*]; done), by repeat (first | exact Drawn0.refl _ | apply Drawn0.step)⟩
              · rw [if_neg c7] at H
                exact absurd H (by simp)
            · rw [if_neg c6] at H
              exact absurd H (by simp)
          · rw [if_neg c5] at H
            exact absurd H (by simp)
        · rw [if_neg c4] at H
          have c4b0 : decide (x13_1 < (l0.length : Int)) = false := decide_eq_false c4
          clear c4
          obtain rfl := Option.some.inj H
          go_wp2
          repeat (go_quiet (fail); try go_wp2)
          go_ret
          exact ⟨by first | rfl | (simp; done) | (simp [*]; done), by repeat (first | exact Drawn0.refl _ | apply Drawn0.step)⟩
  · rw [if_neg c3] at H
    have c3b0 : ((l0.length : Int) == (l1.length : Int)) = false := beq_eq_false_iff_ne.mpr c3
    have c3b1 : ((l0.length : Int) != (l1.length : Int)) = true := bne_iff_ne.mpr c3
    have c3b2 : (l0.length == l1.length) = false := by first | simpa using c3 | (simp at c3 ⊢; omega)
    obtain rfl := Option.some.inj H
    go_enter Tryd.func24, Tryd.ntmps24
    go_wp2
    repeat (go_quiet (fail); try go_wp2)
    go_ret
    exact ⟨by first | rfl | (simp; done) | (simp [*]; done), by repeat (first | exact Drawn0.refl _ | apply Drawn0.step)⟩

/-! ### cringleref02_Cut: function 25 -/
def cringleref02_Cut.l0 : Nat → ByteArray → Int → Int → Option (ByteArray)
  | 0, _, _, _ => none
  | k + 1, x0, x1, x5 => if x5 < (x0.size : Int) then (if 0 ≤ x5 then (if x5 ≤ (x0.size : Int) then ((cringleref02_Next.f k (x0.extract (x5 : Int).toNat x0.size)).bind fun bt195 => (if bt195.2.1 > (wrap64 (x1 - x5)) then (some (x0.extract 0 (x5 : Int).toNat)) else (cringleref02_Cut.l0 k x0 x1 (wrap64 (x5 + bt195.2.1))))) else (none)) else (none)) else (if 0 ≤ x5 then (if x5 ≤ (x0.size : Int) then (some (x0.extract 0 (x5 : Int).toNat)) else (none)) else (none))
def cringleref02_Cut.f (k : Nat) (a0 : ByteArray) (a1 : Int) : Option (ByteArray) := cringleref02_Cut.l0 k a0 a1 0
theorem cringleref02_Cut.mono_l : ∀ k, (∀ y0 y1 y2, LeO (cringleref02_Cut.l0 k y0 y1 y2) (cringleref02_Cut.l0 (k + 1) y0 y1 y2))
  | 0 => fun _ _ _ r h => by simp [cringleref02_Cut.l0] at h
  | k + 1 => by
    have ih0 := cringleref02_Cut.mono_l k
    · intro y0 y1 y2
      unfold cringleref02_Cut.l0
      repeat' first
      | (with_reducible exact ih0 _ _ _)
      | (with_reducible exact cringleref02_Next.mono _ _)
      | (with_reducible exact LeO.refl _)
      | (with_reducible exact LeO.none _)
      | (with_reducible refine LeO.ite ?_ ?_)
      | (with_reducible refine LeO.bind ?_ (fun _ => ?_))
      | exact ih0 _ _ _
      | exact cringleref02_Next.mono _ _
      | exact LeO.none _
      | refine LeO.ite ?_ ?_
      | refine LeO.bind ?_ (fun _ => ?_)
theorem cringleref02_Cut.mono : ∀ a0 a1 k, LeO (cringleref02_Cut.f k a0 a1) (cringleref02_Cut.f (k + 1) a0 a1) := by
  intro a0 a1 k
  have ih0 := cringleref02_Cut.mono_l k
  unfold cringleref02_Cut.f
  repeat' first
      | (with_reducible exact ih0 _ _ _)
      | (with_reducible exact cringleref02_Next.mono _ _)
      | (with_reducible exact LeO.refl _)
      | (with_reducible exact LeO.none _)
      | (with_reducible refine LeO.ite ?_ ?_)
      | (with_reducible refine LeO.bind ?_ (fun _ => ?_))
      | exact ih0 _ _ _
      | exact cringleref02_Next.mono _ _
      | exact LeO.none _
      | refine LeO.ite ?_ ?_
      | refine LeO.bind ?_ (fun _ => ?_)
set_option maxHeartbeats 8000000 in
set_option maxRecDepth 100000 in
theorem cringleref02_Cut.calls (k : Nat) (a0 : ByteArray) (a1 : Int) (r : ByteArray) (w : World) (h : cringleref02_Cut.f k a0 a1 = some r) :
    Calls Tryd.prog 25 #[.string a0, .int .i64 a1] w fun e w' => e = .returned (.string r) ∧ Drawn0 w w' := by
  have H : (cringleref02_Cut.l0 k a0 a1 0) = some r := h
  clear h
  have H' := Aside0.mk H
  clear H
  go_enter Tryd.func25, Tryd.ntmps25
  go_wp2
  go_loopg [5] k (fun kq v5 w' => ∃ (x5_1 : Int), v5 = .int .i64 x5_1 ∧ Aside0 (cringleref02_Cut.l0 kq a0 a1 x5_1 = some r) ∧ Aside0 (kq ≤ k) ∧ Drawn0 w w')
  case atStart => exact ⟨(0), (by first | rfl | (simp; done) | (simp [*]; done)), H', ⟨Nat.le_refl _⟩, by repeat (first | exact Drawn0.refl _ | apply Drawn0.step)⟩
  case round =>
    clear H'
    try clear c2
    try clear p2
    obtain ⟨x5_1, rfl, HA, HK1, ⟨m1, rfl⟩⟩ := hrel
    cases gk with
    | zero => exact absurd HA.out (by simp [cringleref02_Cut.l0])
    | succ k1 =>
      have H := HA.out
      clear HA
      simp only [cringleref02_Cut.l0] at H
      by_cases c3 : x5_1 < (a0.size : Int)
      · rw [if_pos c3] at H
        have c3b0 : decide (x5_1 < (a0.size : Int)) = true := decide_eq_true c3
        clear c3
        by_cases c4 : 0 ≤ x5_1
        · rw [if_pos c4] at H
          have c4b0 := eq_true c4
          have c4b1 : decide (0 ≤ x5_1) = true := decide_eq_true c4
          clear c4
          by_cases c5 : x5_1 ≤ (a0.size : Int)
          · rw [if_pos c5] at H
            have c5b0 := eq_true c5
            have c5b1 : decide (x5_1 ≤ (a0.size : Int)) = true := decide_eq_true c5
            clear c5
            replace H := Option.bind_eq_some_iff.mp H
            obtain ⟨⟨t195, t196, t197⟩, A60, H⟩ := H
            replace H : (if t196 > (wrap64 (a1 - x5_1)) then (some (a0.extract 0 (x5_1 : Int).toNat)) else (cringleref02_Cut.l0 k1 a0 a1 (wrap64 (x5_1 + t196)))) = some r := H
            have A6 := Aside0.mk A60
            clear A60
            by_cases c7 : t196 > (wrap64 (a1 - x5_1))
            · rw [if_pos c7] at H
              have c7b0 : decide ((wrap64 (a1 - x5_1)) < t196) = true := decide_eq_true c7
              clear c7
              have c8b0 := eq_true (of_decide_eq_true (by first | (with_reducible assumption) | assumption) : 0 ≤ x5_1)
              have c9b0 := eq_true (of_decide_eq_true (by first | (with_reducible assumption) | assumption) : x5_1 ≤ (a0.size : Int))
              obtain rfl := Option.some.inj H
              go_wp2_with (first | ((with_reducible refine gate_callee (f := 14) rfl ?_); refine goesL_ (some 17) rfl rfl Tryd.func14 (by kernel_rfl) rfl #[.string (a0.extract (x5_1 : Int).toNat a0.size)] rfl (by (try simp only [List.map_toArray, List.map_cons, List.map_nil]); first | done | rfl | (simp only [List.length_drop, List.length_take]; rfl)) ?_; (with_reducible refine (cringleref02_Next.calls k1 (a0.extract (x5_1 : Int).toNat a0.size) t195 t196 t197 _ A6.out).mono ?_); rintro e w' ⟨rfl, ⟨nd, rfl⟩⟩; refine ⟨_, rfl, ?_⟩))
              go_ret
              exact ⟨by first | rfl | (simp; done) | (simp [*]; done), by repeat (first | exact Drawn0.refl _ | apply Drawn0.step)⟩
            · rw [if_neg c7] at H
              have c7b0 : decide ((wrap64 (a1 - x5_1)) < t196) = false := decide_eq_false c7
              clear c7
              have H' := Aside0.mk H
              clear H
              go_wp2_with (first | ((with_reducible refine gate_callee (f := 14) rfl ?_); refine goesL_ (some 17) rfl rfl Tryd.func14 (by kernel_rfl) rfl #[.string (a0.extract (x5_1 : Int).toNat a0.size)] rfl (by (try simp only [List.map_toArray, List.map_cons, List.map_nil]); first | done | rfl | (simp only [List.length_drop, List.length_take]; rfl)) ?_; (with_reducible refine (cringleref02_Next.calls k1 (a0.extract (x5_1 : Int).toNat a0.size) t195 t196 t197 _ A6.out).mono ?_); rintro e w' ⟨rfl, ⟨nd, rfl⟩⟩; refine ⟨_, rfl, ?_⟩))
              go_roundg k1
              case measure => have := HK1.out; omega
              case rel => exact ⟨(wrap64 (x5_1 + t196)), (by first | rfl | (simp; done) | (simp [*]; done)), H', ⟨by have := HK1.out; omega⟩, by repeat (first | exact Drawn0.refl _ | apply Drawn0.step)⟩
          · rw [if_neg c5] at H
            exact absurd H (by simp)
        · rw [if_neg c4] at H
          exact absurd H (by simp)
      · rw [if_neg c3] at H
        have c3b0 : decide (x5_1 < (a0.size : Int)) = false := decide_eq_false c3
        clear c3
        by_cases c10 : 0 ≤ x5_1
        · rw [if_pos c10] at H
          have c10b0 := eq_true c10
          have c10b1 : decide (0 ≤ x5_1) = true := decide_eq_true c10
          clear c10
          by_cases c11 : x5_1 ≤ (a0.size : Int)
          · rw [if_pos c11] at H
            have c11b0 := eq_true c11
            have c11b1 : decide (x5_1 ≤ (a0.size : Int)) = true := decide_eq_true c11
            clear c11
            obtain rfl := Option.some.inj H
            go_wp2
            go_ret
            exact ⟨by first | rfl | (simp; done) | (simp [*]; done), by repeat (first | exact Drawn0.refl _ | apply Drawn0.step)⟩
          · rw [if_neg c11] at H
            exact absurd H (by simp)
        · rw [if_neg c10] at H
          exact absurd H (by simp)

/-! ### cringlelaw02_UtfTexts: function 9 -/
def cringlelaw02_UtfTexts.f (k : Nat) (a0 : ByteArray) (a1 : Int) : Option (Bool) := (cringlelaw02_long.f a0).bind fun t198 => (if t198 = true then ((cringlelaw02_alive.f k).bind fun t199 => (some t199)) else ((utf_Signs.f a0).bind fun bt200 => ((cringleref02_Signs.f k a0).bind fun bt204 => ((utf_IsText.f a0).bind fun t208 => ((cringleref02_IsText.f k a0).bind fun t209 => (if (t208 == t209) = true then ((utf_Repair.f k a0).bind fun t210 => ((cringleref02_Repair.f k a0).bind fun t211 => (if t210.toList = t211.toList then ((cringlelaw02_same.f k bt200.1 bt204.1).bind fun t212 => (if t212 = true then (if bt200.2 = bt204.2 then ((utf_Cut.f k a0 a1).bind fun t213 => ((cringleref02_Cut.f k a0 a1).bind fun t214 => (if t213.toList = t214.toList then ((cringlelaw02_alive.f k).bind fun t215 => (some t215)) else (some false)))) else (some false)) else (some false))) else (some false)))) else (some false)))))))
theorem cringlelaw02_UtfTexts.mono : ∀ a0 a1 k, LeO (cringlelaw02_UtfTexts.f k a0 a1) (cringlelaw02_UtfTexts.f (k + 1) a0 a1) := by
  intro a0 a1 k
  unfold cringlelaw02_UtfTexts.f
  repeat' first
      | (with_reducible exact cringlelaw02_alive.mono _)
      | (with_reducible exact cringlelaw02_same.mono _ _ _)
      | (with_reducible exact cringleref02_Cut.mono _ _ _)
      | (with_reducible exact cringleref02_IsText.mono _ _)
      | (with_reducible exact cringleref02_Repair.mono _ _)
      | (with_reducible exact cringleref02_Signs.mono _ _)
      | (with_reducible exact utf_Cut.mono _ _ _)
      | (with_reducible exact utf_Repair.mono _ _)
      | (with_reducible exact LeO.refl _)
      | (with_reducible exact LeO.none _)
      | (with_reducible refine LeO.ite ?_ ?_)
      | (with_reducible refine LeO.bind ?_ (fun _ => ?_))
      | exact cringlelaw02_alive.mono _
      | exact cringlelaw02_same.mono _ _ _
      | exact cringleref02_Cut.mono _ _ _
      | exact cringleref02_IsText.mono _ _
      | exact cringleref02_Repair.mono _ _
      | exact cringleref02_Signs.mono _ _
      | exact utf_Cut.mono _ _ _
      | exact utf_Repair.mono _ _
      | exact LeO.none _
      | refine LeO.ite ?_ ?_
      | refine LeO.bind ?_ (fun _ => ?_)
set_option maxHeartbeats 8000000 in
set_option maxRecDepth 100000 in
theorem cringlelaw02_UtfTexts.calls (k : Nat) (a0 : ByteArray) (a1 : Int) (r : Bool) (w : World) (h : cringlelaw02_UtfTexts.f k a0 a1 = some r) (htrue : Aside0 (r = true)) (TT_ : Aside0 (Lib.Utf8Tabs 0 1 w) := by first | exact TT_ | exact ⟨Go.Proofs.Utf8Tabs_below TT_.out (by repeat (first | (with_reducible first | exact HB.out | apply below_alloc | apply pw_below_drewN | apply below_drew1) | exact HB.out | (refine below_set ?_ ?_; rotate_left; exact (Aside0.out (by assumption)))))⟩) :
    Calls Tryd.prog 9 #[.string a0, .int .i64 a1] w fun e w' => e = .returned (.bool r) ∧ Below w.heap.size w w' := by
  have HB := Aside0.mk (Below.refl w.heap.size w)
  have H : ((cringlelaw02_long.f a0).bind fun t198 => (if t198 = true then ((cringlelaw02_alive.f k).bind fun t199 => (some t199)) else ((utf_Signs.f a0).bind fun bt200 => ((cringleref02_Signs.f k a0).bind fun bt204 => ((utf_IsText.f a0).bind fun t208 => ((cringleref02_IsText.f k a0).bind fun t209 => (if (t208 == t209) = true then ((utf_Repair.f k a0).bind fun t210 => ((cringleref02_Repair.f k a0).bind fun t211 => (if t210.toList = t211.toList then ((cringlelaw02_same.f k bt200.1 bt204.1).bind fun t212 => (if t212 = true then (if bt200.2 = bt204.2 then ((utf_Cut.f k a0 a1).bind fun t213 => ((cringleref02_Cut.f k a0 a1).bind fun t214 => (if t213.toList = t214.toList then ((cringlelaw02_alive.f k).bind fun t215 => (some t215)) else (some false)))) else (some false)) else (some false))) else (some false)))) else (some false)))))))) = some r := h
  clear h
  replace H := Option.bind_eq_some_iff.mp H
  obtain ⟨t198, A30, H⟩ := H
  replace H : (if t198 = true then ((cringlelaw02_alive.f k).bind fun t199 => (some t199)) else ((utf_Signs.f a0).bind fun bt200 => ((cringleref02_Signs.f k a0).bind fun bt204 => ((utf_IsText.f a0).bind fun t208 => ((cringleref02_IsText.f k a0).bind fun t209 => (if (t208 == t209) = true then ((utf_Repair.f k a0).bind fun t210 => ((cringleref02_Repair.f k a0).bind fun t211 => (if t210.toList = t211.toList then ((cringlelaw02_same.f k bt200.1 bt204.1).bind fun t212 => (if t212 = true then (if bt200.2 = bt204.2 then ((utf_Cut.f k a0 a1).bind fun t213 => ((cringleref02_Cut.f k a0 a1).bind fun t214 => (if t213.toList = t214.toList then ((cringlelaw02_alive.f k).bind fun t215 => (some t215)) else (some false)))) else (some false)) else (some false))) else (some false)))) else (some false))))))) = some r := H
  have A3 := Aside0.mk A30
  clear A30
  by_cases c4 : t198 = true
  · subst c4
    have H1 : ((cringlelaw02_alive.f k).bind fun t199 => (some t199)) = some r := by rw [if_pos rfl] at H; exact H
    clear H
    have H := H1
    clear H1
    replace H := Option.bind_eq_some_iff.mp H
    obtain ⟨t199, A50, H⟩ := H
    replace H : (some t199) = some r := H
    have A5 := Aside0.mk A50
    clear A50
    obtain rfl := Option.some.inj H
    go_enter Tryd.func9, Tryd.ntmps9
    go_wp2_with (first | ((with_reducible refine gate_callee (f := 16) rfl ?_); refine goesL_ (some 10) rfl rfl Tryd.func16 (by kernel_rfl) rfl #[.string a0] rfl (by (try simp only [List.map_toArray, List.map_cons, List.map_nil]); first | done | rfl | (simp only [List.length_drop, List.length_take]; rfl)) ?_; (with_reducible refine (cringlelaw02_long.calls a0 true _ A3.out).mono ?_); rintro e w' ⟨rfl, ⟨nd, rfl⟩⟩; refine ⟨_, rfl, ?_⟩) | ((with_reducible refine gate_callee (f := 10) rfl ?_); refine goesL_ (some 11) rfl rfl Tryd.func10 (by kernel_rfl) rfl #[] rfl (by (try simp only [List.map_toArray, List.map_cons, List.map_nil]); first | done | rfl | (simp only [List.length_drop, List.length_take]; rfl)) ?_; (with_reducible refine (cringlelaw02_alive.calls k  t199 _ A5.out).mono ?_); rintro e w6 ⟨rfl, hb⟩; refine ⟨_, rfl, ?_⟩; have n0_ := Aside0.mk (below_step (by repeat (first | (with_reducible first | exact HB.out | apply below_alloc | apply pw_below_drewN | apply below_drew1) | exact HB.out)) hb); clear HB; have HB := n0_; clear n0_; (try clear hb); (try clear hb2); (try clear hk); (try clear hi)))
    go_ret
    exact ⟨by first | rfl | (simp [errW_none, errW_some] <;> rfl) | (simp [*, errW_none, errW_some] <;> rfl), by repeat (first | (with_reducible first | exact HB.out | apply below_alloc | apply pw_below_drewN | apply below_drew1) | exact HB.out)⟩
  · replace c4 := Bool.eq_false_iff.mpr c4
    subst c4
    have H1 : ((utf_Signs.f a0).bind fun bt200 => ((cringleref02_Signs.f k a0).bind fun bt204 => ((utf_IsText.f a0).bind fun t208 => ((cringleref02_IsText.f k a0).bind fun t209 => (if (t208 == t209) = true then ((utf_Repair.f k a0).bind fun t210 => ((cringleref02_Repair.f k a0).bind fun t211 => (if t210.toList = t211.toList then ((cringlelaw02_same.f k bt200.1 bt204.1).bind fun t212 => (if t212 = true then (if bt200.2 = bt204.2 then ((utf_Cut.f k a0 a1).bind fun t213 => ((cringleref02_Cut.f k a0 a1).bind fun t214 => (if t213.toList = t214.toList then ((cringlelaw02_alive.f k).bind fun t215 => (some t215)) else (some false)))) else (some false)) else (some false))) else (some false)))) else (some false)))))) = some r := by rw [if_neg (show ¬ (false = true) by decide)] at H; exact H
    clear H
    have H := H1
    clear H1
    replace H := Option.bind_eq_some_iff.mp H
    obtain ⟨⟨t200, t201⟩, A70, H⟩ := H
    replace H : ((cringleref02_Signs.f k a0).bind fun bt204 => ((utf_IsText.f a0).bind fun t208 => ((cringleref02_IsText.f k a0).bind fun t209 => (if (t208 == t209) = true then ((utf_Repair.f k a0).bind fun t210 => ((cringleref02_Repair.f k a0).bind fun t211 => (if t210.toList = t211.toList then ((cringlelaw02_same.f k t200 bt204.1).bind fun t212 => (if t212 = true then (if t201 = bt204.2 then ((utf_Cut.f k a0 a1).bind fun t213 => ((cringleref02_Cut.f k a0 a1).bind fun t214 => (if t213.toList = t214.toList then ((cringlelaw02_alive.f k).bind fun t215 => (some t215)) else (some false)))) else (some false)) else (some false))) else (some false)))) else (some false))))) = some r := H
    have A7 := Aside0.mk A70
    clear A70
    replace H := Option.bind_eq_some_iff.mp H
    obtain ⟨⟨t204, t205⟩, A80, H⟩ := H
    replace H : ((utf_IsText.f a0).bind fun t208 => ((cringleref02_IsText.f k a0).bind fun t209 => (if (t208 == t209) = true then ((utf_Repair.f k a0).bind fun t210 => ((cringleref02_Repair.f k a0).bind fun t211 => (if t210.toList = t211.toList then ((cringlelaw02_same.f k t200 t204).bind fun t212 => (if t212 = true then (if t201 = t205 then ((utf_Cut.f k a0 a1).bind fun t213 => ((cringleref02_Cut.f k a0 a1).bind fun t214 => (if t213.toList = t214.toList then ((cringlelaw02_alive.f k).bind fun t215 => (some t215)) else (some false)))) else (some false)) else (some false))) else (some false)))) else (some false)))) = some r := H
    have A8 := Aside0.mk A80
    clear A80
    replace H := Option.bind_eq_some_iff.mp H
    obtain ⟨t208, A90, H⟩ := H
    replace H : ((cringleref02_IsText.f k a0).bind fun t209 => (if (t208 == t209) = true then ((utf_Repair.f k a0).bind fun t210 => ((cringleref02_Repair.f k a0).bind fun t211 => (if t210.toList = t211.toList then ((cringlelaw02_same.f k t200 t204).bind fun t212 => (if t212 = true then (if t201 = t205 then ((utf_Cut.f k a0 a1).bind fun t213 => ((cringleref02_Cut.f k a0 a1).bind fun t214 => (if t213.toList = t214.toList then ((cringlelaw02_alive.f k).bind fun t215 => (some t215)) else (some false)))) else (some false)) else (some false))) else (some false)))) else (some false))) = some r := H
    have A9 := Aside0.mk A90
    clear A90
    replace H := Option.bind_eq_some_iff.mp H
    obtain ⟨t209, A100, H⟩ := H
    replace H : (if (t208 == t209) = true then ((utf_Repair.f k a0).bind fun t210 => ((cringleref02_Repair.f k a0).bind fun t211 => (if t210.toList = t211.toList then ((cringlelaw02_same.f k t200 t204).bind fun t212 => (if t212 = true then (if t201 = t205 then ((utf_Cut.f k a0 a1).bind fun t213 => ((cringleref02_Cut.f k a0 a1).bind fun t214 => (if t213.toList = t214.toList then ((cringlelaw02_alive.f k).bind fun t215 => (some t215)) else (some false)))) else (some false)) else (some false))) else (some false)))) else (some false)) = some r := H
    have A10 := Aside0.mk A100
    clear A100
    by_cases c11 : (t208 == t209) = true
    · rw [if_pos c11] at H
      have c11b0 : (t208 == t209) = true := c11
      (try (have c11b1 : decide (t208 = t209) = true := by simpa using c11))
      (try (have c11b2 : (t208 == t209) = true := by simpa using c11))
      clear c11
      replace H := Option.bind_eq_some_iff.mp H
      obtain ⟨t210, A120, H⟩ := H
      replace H : ((cringleref02_Repair.f k a0).bind fun t211 => (if t210.toList = t211.toList then ((cringlelaw02_same.f k t200 t204).bind fun t212 => (if t212 = true then (if t201 = t205 then ((utf_Cut.f k a0 a1).bind fun t213 => ((cringleref02_Cut.f k a0 a1).bind fun t214 => (if t213.toList = t214.toList then ((cringlelaw02_alive.f k).bind fun t215 => (some t215)) else (some false)))) else (some false)) else (some false))) else (some false))) = some r := H
      have A12 := Aside0.mk A120
      clear A120
      replace H := Option.bind_eq_some_iff.mp H
      obtain ⟨t211, A130, H⟩ := H
      replace H : (if t210.toList = t211.toList then ((cringlelaw02_same.f k t200 t204).bind fun t212 => (if t212 = true then (if t201 = t205 then ((utf_Cut.f k a0 a1).bind fun t213 => ((cringleref02_Cut.f k a0 a1).bind fun t214 => (if t213.toList = t214.toList then ((cringlelaw02_alive.f k).bind fun t215 => (some t215)) else (some false)))) else (some false)) else (some false))) else (some false)) = some r := H
      have A13 := Aside0.mk A130
      clear A130
      by_cases c14 : t210.toList = t211.toList
      · rw [if_pos c14] at H
        have c14b0 : (t210.toList == t211.toList) = true := beq_iff_eq.mpr c14
        have c14b1 : (t210.toList != t211.toList) = false := bne_eq_false_iff_eq.mpr c14
        clear c14
        replace H := Option.bind_eq_some_iff.mp H
        obtain ⟨t212, A150, H⟩ := H
        replace H : (if t212 = true then (if t201 = t205 then ((utf_Cut.f k a0 a1).bind fun t213 => ((cringleref02_Cut.f k a0 a1).bind fun t214 => (if t213.toList = t214.toList then ((cringlelaw02_alive.f k).bind fun t215 => (some t215)) else (some false)))) else (some false)) else (some false)) = some r := H
        have A15 := Aside0.mk A150
        clear A150
        by_cases c16 : t212 = true
        · subst c16
          have H1 : (if t201 = t205 then ((utf_Cut.f k a0 a1).bind fun t213 => ((cringleref02_Cut.f k a0 a1).bind fun t214 => (if t213.toList = t214.toList then ((cringlelaw02_alive.f k).bind fun t215 => (some t215)) else (some false)))) else (some false)) = some r := by rw [if_pos rfl] at H; exact H
          clear H
          have H := H1
          clear H1
          by_cases c17 : t201 = t205
          · rw [if_pos c17] at H
            have c17b0 : (t201 == t205) = true := beq_iff_eq.mpr c17
            have c17b1 : (t201 != t205) = false := bne_eq_false_iff_eq.mpr c17
            clear c17
            replace H := Option.bind_eq_some_iff.mp H
            obtain ⟨t213, A180, H⟩ := H
            replace H : ((cringleref02_Cut.f k a0 a1).bind fun t214 => (if t213.toList = t214.toList then ((cringlelaw02_alive.f k).bind fun t215 => (some t215)) else (some false))) = some r := H
            have A18 := Aside0.mk A180
            clear A180
            replace H := Option.bind_eq_some_iff.mp H
            obtain ⟨t214, A190, H⟩ := H
            replace H : (if t213.toList = t214.toList then ((cringlelaw02_alive.f k).bind fun t215 => (some t215)) else (some false)) = some r := H
            have A19 := Aside0.mk A190
            clear A190
            by_cases c20 : t213.toList = t214.toList
            · rw [if_pos c20] at H
              have c20b0 : (t213.toList == t214.toList) = true := beq_iff_eq.mpr c20
              have c20b1 : (t213.toList != t214.toList) = false := bne_eq_false_iff_eq.mpr c20
              clear c20
              replace H := Option.bind_eq_some_iff.mp H
              obtain ⟨t215, A210, H⟩ := H
              replace H : (some t215) = some r := H
              have A21 := Aside0.mk A210
              clear A210
              obtain rfl := Option.some.inj H
              go_enter Tryd.func9, Tryd.ntmps9
              go_wp2_with (first | ((with_reducible refine gate_callee (f := 16) rfl ?_); refine goesL_ (some 10) rfl rfl Tryd.func16 (by kernel_rfl) rfl #[.string a0] rfl (by (try simp only [List.map_toArray, List.map_cons, List.map_nil]); first | done | rfl | (simp only [List.length_drop, List.length_take]; rfl)) ?_; (with_reducible refine (cringlelaw02_long.calls a0 false _ A3.out).mono ?_); rintro e w' ⟨rfl, ⟨nd, rfl⟩⟩; refine ⟨_, rfl, ?_⟩) | ((with_reducible refine gate_callee (f := 19) rfl ?_); refine goesL_ (some 14) rfl rfl Tryd.func19 (by kernel_rfl) rfl #[.string a0] rfl (by (try simp only [List.map_toArray, List.map_cons, List.map_nil]); first | done | rfl | (simp only [List.length_drop, List.length_take]; rfl)) ?_; (with_reducible refine (utf_Signs.calls a0 t200 t201 _ A7.out).mono ?_); rintro e w22 ⟨v202, rfl, ho0, hb⟩; refine ⟨_, rfl, ?_⟩; have n0_ := Aside0.mk (Kd.R_lower ho0 (below_size (by repeat (first | (with_reducible first | exact HB.out | apply below_alloc | apply pw_below_drewN | apply below_drew1) | exact HB.out)))); have n1_ := Aside0.mk (below_step (by repeat (first | (with_reducible first | exact HB.out | apply below_alloc | apply pw_below_drewN | apply below_drew1) | exact HB.out)) hb); clear HB; have HO203 := n0_; have HB := n1_; clear n0_ n1_; (try clear hb); (try clear hb2); (try clear hk); (try clear hi); (try clear ho0)) | ((with_reducible refine gate_callee (f := 21) rfl ?_); refine goesL_ (some 19) rfl rfl Tryd.func21 (by kernel_rfl) rfl #[.string a0] rfl (by (try simp only [List.map_toArray, List.map_cons, List.map_nil]); first | done | rfl | (simp only [List.length_drop, List.length_take]; rfl)) ?_; (with_reducible refine (cringleref02_Signs.calls k a0 t204 t205 _ A8.out).mono ?_); rintro e w23 ⟨v206, rfl, ho0, hb⟩; refine ⟨_, rfl, ?_⟩; have n0_ := Aside0.mk (Kd.R_elder' (by (with_reducible repeat (first | apply Kd.R_alloc | apply Kd.R_drewN | apply Kd.R_drew)); exact HO203.out) (Kd.R_base ho0) hb); have n1_ := Aside0.mk (Kd.R_lower (Kd.R_new' ho0 (Kd.R_lt (by (with_reducible repeat (first | apply Kd.R_alloc | apply Kd.R_drewN | apply Kd.R_drew)); exact HO203.out))) (below_size (by repeat (first | (with_reducible first | exact HB.out | apply below_alloc | apply pw_below_drewN | apply below_drew1) | exact HB.out)))); have n2_ := Aside0.mk (below_step (by repeat (first | (with_reducible first | exact HB.out | apply below_alloc | apply pw_below_drewN | apply below_drew1) | exact HB.out)) hb); clear HO203; clear HB; have HO203 := n0_; have HO207 := n1_; have HB := n2_; clear n0_ n1_ n2_; (try clear hb); (try clear hb2); (try clear hk); (try clear hi); (try clear ho0)) | ((with_reducible refine gate_callee (f := 18) rfl ?_); refine goesL_ (some 23) rfl rfl Tryd.func18 (by kernel_rfl) rfl #[.string a0] rfl (by (try simp only [List.map_toArray, List.map_cons, List.map_nil]); first | done | rfl | (simp only [List.length_drop, List.length_take]; rfl)) ?_; (with_reducible refine (utf_IsText.calls a0 t208 _ A9.out).mono ?_); rintro e w24 ⟨rfl, hb⟩; refine ⟨_, rfl, ?_⟩; have n0_ := Aside0.mk (Kd.R_below (by (with_reducible repeat (first | apply Kd.R_alloc | apply Kd.R_drewN | apply Kd.R_drew)); exact HO203.out) hb); have n1_ := Aside0.mk (Kd.R_below (by (with_reducible repeat (first | apply Kd.R_alloc | apply Kd.R_drewN | apply Kd.R_drew)); exact HO207.out) hb); have n2_ := Aside0.mk (below_step (by repeat (first | (with_reducible first | exact HB.out | apply below_alloc | apply pw_below_drewN | apply below_drew1) | exact HB.out)) hb); clear HO203; clear HO207; clear HB; have HO203 := n0_; have HO207 := n1_; have HB := n2_; clear n0_ n1_ n2_; (try clear hb); (try clear hb2); (try clear hk); (try clear hi)) | ((with_reducible refine gate_callee (f := 22) rfl ?_); refine goesL_ (some 25) rfl rfl Tryd.func22 (by kernel_rfl) rfl #[.string a0] rfl (by (try simp only [List.map_toArray, List.map_cons, List.map_nil]); first | done | rfl | (simp only [List.length_drop, List.length_take]; rfl)) ?_; (with_reducible refine (cringleref02_IsText.calls k a0 t209 _ A10.out).mono ?_); rintro e w' ⟨rfl, ⟨nd, rfl⟩⟩; refine ⟨_, rfl, ?_⟩) | (go_at_call 17; (with_reducible refine (utf_Repair.calls k a0 t210 _ A12.out).mono ?_); rintro e w25 ⟨rfl, hb⟩; have n0_ := Aside0.mk (Kd.R_below (by (with_reducible repeat (first | apply Kd.R_alloc | apply Kd.R_drewN | apply Kd.R_drew)); exact HO203.out) hb); have n1_ := Aside0.mk (Kd.R_below (by (with_reducible repeat (first | apply Kd.R_alloc | apply Kd.R_drewN | apply Kd.R_drew)); exact HO207.out) hb); have n2_ := Aside0.mk (below_step (by repeat (first | (with_reducible first | exact HB.out | apply below_alloc | apply pw_below_drewN | apply below_drew1) | exact HB.out)) hb); clear HO203; clear HO207; clear HB; have HO203 := n0_; have HO207 := n1_; have HB := n2_; clear n0_ n1_ n2_; (try clear hb); (try clear hb2); (try clear hk); (try clear hi)) | (go_at_call 23; (with_reducible refine (cringleref02_Repair.calls k a0 t211 _ A13.out).mono ?_); rintro e w26 ⟨rfl, hb⟩; have n0_ := Aside0.mk (Kd.R_below (by (with_reducible repeat (first | apply Kd.R_alloc | apply Kd.R_drewN | apply Kd.R_drew)); exact HO203.out) hb); have n1_ := Aside0.mk (Kd.R_below (by (with_reducible repeat (first | apply Kd.R_alloc | apply Kd.R_drewN | apply Kd.R_drew)); exact HO207.out) hb); have n2_ := Aside0.mk (below_step (by repeat (first | (with_reducible first | exact HB.out | apply below_alloc | apply pw_below_drewN | apply below_drew1) | exact HB.out)) hb); clear HO203; clear HO207; clear HB; have HO203 := n0_; have HO207 := n1_; have HB := n2_; clear n0_ n1_ n2_; (try clear hb); (try clear hb2); (try clear hk); (try clear hi); obtain ⟨Ao27, co27, eo27⟩ := Kd.R_slice HO203.out; subst eo27; obtain ⟨Ao28, co28, eo28⟩ := Kd.R_slice HO207.out; subst eo28) | (go_at_call 24; (with_reducible refine (cringlelaw02_same.calls k _ _ t200 _ _ t204 true _ ?side1 ?side2 ?side3 ?side4 A15.out).mono ?_); (case side1 => repeat (first | exact (Kd.R_reads' HO203.out).2.2 | (with_reducible refine Kd.C_alloc ?_ _) | (with_reducible refine Kd.C_drewN ?_ _) | (with_reducible refine Kd.C_drew ?_))); (case side2 => exact (Kd.R_reads' HO203.out).2.1); (case side3 => repeat (first | exact (Kd.R_reads' HO207.out).2.2 | (with_reducible refine Kd.C_alloc ?_ _) | (with_reducible refine Kd.C_drewN ?_ _) | (with_reducible refine Kd.C_drew ?_))); (case side4 => exact (Kd.R_reads' HO207.out).2.1); rintro e w' ⟨rfl, ⟨nd, rfl⟩⟩) | (go_at_call 20; (with_reducible refine (utf_Cut.calls k a0 a1 t213 _ A18.out).mono ?_); rintro e w29 ⟨rfl, hb⟩; have n0_ := Aside0.mk (Kd.R_below (by (with_reducible repeat (first | apply Kd.R_alloc | apply Kd.R_drewN | apply Kd.R_drew)); exact HO203.out) hb); have n1_ := Aside0.mk (Kd.R_below (by (with_reducible repeat (first | apply Kd.R_alloc | apply Kd.R_drewN | apply Kd.R_drew)); exact HO207.out) hb); have n2_ := Aside0.mk (below_step (by repeat (first | (with_reducible first | exact HB.out | apply below_alloc | apply pw_below_drewN | apply below_drew1) | exact HB.out)) hb); clear HO203; clear HO207; clear HB; have HO203 := n0_; have HO207 := n1_; have HB := n2_; clear n0_ n1_ n2_; (try clear hb); (try clear hb2); (try clear hk); (try clear hi)) | (go_at_call 25; (with_reducible refine (cringleref02_Cut.calls k a0 a1 t214 _ A19.out).mono ?_); rintro e w' ⟨rfl, ⟨nd, rfl⟩⟩) | (go_at_call 10; (with_reducible refine (cringlelaw02_alive.calls k  t215 _ A21.out).mono ?_); rintro e w30 ⟨rfl, hb⟩; have n0_ := Aside0.mk (Kd.R_below (by (with_reducible repeat (first | apply Kd.R_alloc | apply Kd.R_drewN | apply Kd.R_drew)); exact HO203.out) hb); have n1_ := Aside0.mk (Kd.R_below (by (with_reducible repeat (first | apply Kd.R_alloc | apply Kd.R_drewN | apply Kd.R_drew)); exact HO207.out) hb); have n2_ := Aside0.mk (below_step (by repeat (first | (with_reducible first | exact HB.out | apply below_alloc | apply pw_below_drewN | apply below_drew1) | exact HB.out)) hb); clear HO203; clear HO207; clear HB; have HO203 := n0_; have HO207 := n1_; have HB := n2_; clear n0_ n1_ n2_; (try clear hb); (try clear hb2); (try clear hk); (try clear hi)))
              go_ret
              exact ⟨by first | rfl | (simp [errW_none, errW_some] <;> rfl) | (simp [*, errW_none, errW_some] <;> rfl), by repeat (first | (with_reducible first | exact HB.out | apply below_alloc | apply pw_below_drewN | apply below_drew1) | exact HB.out)⟩
            · rw [if_neg c20] at H
              have c20b0 : (t213.toList == t214.toList) = false := beq_eq_false_iff_ne.mpr c20
              have c20b1 : (t213.toList != t214.toList) = true := bne_iff_ne.mpr c20
              exact absurd (Option.some.inj H) (by rw [htrue.out]; decide)
          · rw [if_neg c17] at H
            have c17b0 : (t201 == t205) = false := beq_eq_false_iff_ne.mpr c17
            have c17b1 : (t201 != t205) = true := bne_iff_ne.mpr c17
            exact absurd (Option.some.inj H) (by rw [htrue.out]; decide)
        · replace c16 := Bool.eq_false_iff.mpr c16
          subst c16
          have H1 : (some false) = some r := by rw [if_neg (show ¬ (false = true) by decide)] at H; exact H
          clear H
          have H := H1
          clear H1
          exact absurd (Option.some.inj H) (by rw [htrue.out]; decide)
      · rw [if_neg c14] at H
        have c14b0 : (t210.toList == t211.toList) = false := beq_eq_false_iff_ne.mpr c14
        have c14b1 : (t210.toList != t211.toList) = true := bne_iff_ne.mpr c14
        exact absurd (Option.some.inj H) (by rw [htrue.out]; decide)
    · rw [if_neg c11] at H
      have c11b0 : (t208 == t209) = false := by simpa using c11
      (try (have c11b1 : decide (t208 = t209) = false := by simpa using c11))
      (try (have c11b2 : (t208 == t209) = false := by simpa using c11))
      (try (have c11b3 : ¬ (t208 = t209) := by simpa using c11))
      clear c11
      exact absurd (Option.some.inj H) (by rw [htrue.out]; decide)

/-! ### cringlelaw02_UtfBack: function 5 -/
def cringlelaw02_UtfBack.f (k : Nat) (a0 : Int) (a1 : ByteArray) : Option (Bool) := (utf_Put.f k ([] : List Int) (([a0] : List Int))).bind fun t219 => (if (strOfNums t219).size + a1.size ≤ 9223372036854775807 then ((utf_Next.f k ((strOfNums t219) ++ a1)).bind fun bt222 => ((cringleref02_Right.f a0).bind fun t225 => (if t225 = true then (if bt222.1 = a0 then (if bt222.2.1 = (t219.length : Int) then (if bt222.2.1 ≥ 1 then (if bt222.2.1 ≤ 4 then (if bt222.2.2 = 0 then ((cringlelaw02_alive.f k).bind fun t226 => (some t226)) else (some false)) else (some false)) else (some false)) else (some false)) else (some false)) else (if bt222.1 = 65533 then (if bt222.2.1 = (t219.length : Int) then (if bt222.2.1 ≥ 1 then (if bt222.2.1 ≤ 4 then (if bt222.2.2 = 0 then ((cringlelaw02_alive.f k).bind fun t227 => (some t227)) else (some false)) else (some false)) else (some false)) else (some false)) else (some false))))) else (none))
theorem cringlelaw02_UtfBack.mono : ∀ a0 a1 k, LeO (cringlelaw02_UtfBack.f k a0 a1) (cringlelaw02_UtfBack.f (k + 1) a0 a1) := by
  intro a0 a1 k
  unfold cringlelaw02_UtfBack.f
  repeat' first
      | (with_reducible exact cringlelaw02_alive.mono _)
      | (with_reducible exact utf_Next.mono _ _)
      | (with_reducible exact utf_Put.mono _ _ _)
      | (with_reducible exact LeO.refl _)
      | (with_reducible exact LeO.none _)
      | (with_reducible refine LeO.ite ?_ ?_)
      | (with_reducible refine LeO.bind ?_ (fun _ => ?_))
      | exact cringlelaw02_alive.mono _
      | exact utf_Next.mono _ _
      | exact utf_Put.mono _ _ _
      | exact LeO.none _
      | refine LeO.ite ?_ ?_
      | refine LeO.bind ?_ (fun _ => ?_)
set_option maxHeartbeats 8000000 in
set_option maxRecDepth 100000 in
theorem cringlelaw02_UtfBack.calls (k : Nat) (a0 : Int) (a1 : ByteArray) (r : Bool) (w : World) (h : cringlelaw02_UtfBack.f k a0 a1 = some r) (htrue : Aside0 (r = true)) (TT_ : Aside0 (Lib.Utf8Tabs 0 1 w) := by first | exact TT_ | exact ⟨Go.Proofs.Utf8Tabs_below TT_.out (by repeat (first | (with_reducible first | exact HB.out | apply below_alloc | apply pw_below_drewN | apply below_drew1) | exact HB.out | (refine below_set ?_ ?_; rotate_left; exact (Aside0.out (by assumption)))))⟩) :
    Calls Tryd.prog 5 #[.int .i32 a0, .string a1] w fun e w' => e = .returned (.bool r) ∧ Below w.heap.size w w' := by
  have HB := Aside0.mk (Below.refl w.heap.size w)
  have H : ((utf_Put.f k ([] : List Int) (([a0] : List Int))).bind fun t219 => (if (strOfNums t219).size + a1.size ≤ 9223372036854775807 then ((utf_Next.f k ((strOfNums t219) ++ a1)).bind fun bt222 => ((cringleref02_Right.f a0).bind fun t225 => (if t225 = true then (if bt222.1 = a0 then (if bt222.2.1 = (t219.length : Int) then (if bt222.2.1 ≥ 1 then (if bt222.2.1 ≤ 4 then (if bt222.2.2 = 0 then ((cringlelaw02_alive.f k).bind fun t226 => (some t226)) else (some false)) else (some false)) else (some false)) else (some false)) else (some false)) else (if bt222.1 = 65533 then (if bt222.2.1 = (t219.length : Int) then (if bt222.2.1 ≥ 1 then (if bt222.2.1 ≤ 4 then (if bt222.2.2 = 0 then ((cringlelaw02_alive.f k).bind fun t227 => (some t227)) else (some false)) else (some false)) else (some false)) else (some false)) else (some false))))) else (none))) = some r := h
  clear h
  obtain ⟨y216, hy216⟩ : ∃ y_ : List Int, y_ = (([a0] : List Int)) := ⟨_, rfl⟩
  replace H : ((utf_Put.f k ([] : List Int) y216).bind fun t219 => (if (strOfNums t219).size + a1.size ≤ 9223372036854775807 then ((utf_Next.f k ((strOfNums t219) ++ a1)).bind fun bt222 => ((cringleref02_Right.f a0).bind fun t225 => (if t225 = true then (if bt222.1 = a0 then (if bt222.2.1 = (t219.length : Int) then (if bt222.2.1 ≥ 1 then (if bt222.2.1 ≤ 4 then (if bt222.2.2 = 0 then ((cringlelaw02_alive.f k).bind fun t226 => (some t226)) else (some false)) else (some false)) else (some false)) else (some false)) else (some false)) else (if bt222.1 = 65533 then (if bt222.2.1 = (t219.length : Int) then (if bt222.2.1 ≥ 1 then (if bt222.2.1 ≤ 4 then (if bt222.2.2 = 0 then ((cringlelaw02_alive.f k).bind fun t227 => (some t227)) else (some false)) else (some false)) else (some false)) else (some false)) else (some false))))) else (none))) = some r := by first | (rw [hy216]; with_reducible exact H) | (have H2_ := (Option.bind_some _ _).symm.trans H; rw [hy216]; with_reducible exact H2_) | (have H2_ := (Option.bind_some _ _).symm.trans H; with_reducible exact H2_) | with_reducible exact H | (rw [hy216]; exact H) | exact H
  have Ny216 := Aside0.mk hy216
  clear hy216
  replace H := Option.bind_eq_some_iff.mp H
  obtain ⟨t219, A30, H⟩ := H
  replace H : (if (strOfNums t219).size + a1.size ≤ 9223372036854775807 then ((utf_Next.f k ((strOfNums t219) ++ a1)).bind fun bt222 => ((cringleref02_Right.f a0).bind fun t225 => (if t225 = true then (if bt222.1 = a0 then (if bt222.2.1 = (t219.length : Int) then (if bt222.2.1 ≥ 1 then (if bt222.2.1 ≤ 4 then (if bt222.2.2 = 0 then ((cringlelaw02_alive.f k).bind fun t226 => (some t226)) else (some false)) else (some false)) else (some false)) else (some false)) else (some false)) else (if bt222.1 = 65533 then (if bt222.2.1 = (t219.length : Int) then (if bt222.2.1 ≥ 1 then (if bt222.2.1 ≤ 4 then (if bt222.2.2 = 0 then ((cringlelaw02_alive.f k).bind fun t227 => (some t227)) else (some false)) else (some false)) else (some false)) else (some false)) else (some false))))) else (none)) = some r := H
  have A3 := Aside0.mk A30
  clear A30
  by_cases c4 : (strOfNums t219).size + a1.size ≤ 9223372036854775807
  · rw [if_pos c4] at H
    have c4b0 := eq_true c4
    have c4b1 : decide ((strOfNums t219).size + a1.size ≤ 9223372036854775807) = true := decide_eq_true c4
    try have c4b2 : (9223372036854775807 < (strOfNums t219).size + a1.size) = False := eq_false (Nat.not_lt.2 c4)
    replace H := Option.bind_eq_some_iff.mp H
    obtain ⟨⟨t222, t223, t224⟩, A50, H⟩ := H
    replace H : ((cringleref02_Right.f a0).bind fun t225 => (if t225 = true then (if t222 = a0 then (if t223 = (t219.length : Int) then (if t223 ≥ 1 then (if t223 ≤ 4 then (if t224 = 0 then ((cringlelaw02_alive.f k).bind fun t226 => (some t226)) else (some false)) else (some false)) else (some false)) else (some false)) else (some false)) else (if t222 = 65533 then (if t223 = (t219.length : Int) then (if t223 ≥ 1 then (if t223 ≤ 4 then (if t224 = 0 then ((cringlelaw02_alive.f k).bind fun t227 => (some t227)) else (some false)) else (some false)) else (some false)) else (some false)) else (some false)))) = some r := H
    have A5 := Aside0.mk A50
    clear A50
    replace H := Option.bind_eq_some_iff.mp H
    obtain ⟨t225, A60, H⟩ := H
    replace H : (if t225 = true then (if t222 = a0 then (if t223 = (t219.length : Int) then (if t223 ≥ 1 then (if t223 ≤ 4 then (if t224 = 0 then ((cringlelaw02_alive.f k).bind fun t226 => (some t226)) else (some false)) else (some false)) else (some false)) else (some false)) else (some false)) else (if t222 = 65533 then (if t223 = (t219.length : Int) then (if t223 ≥ 1 then (if t223 ≤ 4 then (if t224 = 0 then ((cringlelaw02_alive.f k).bind fun t227 => (some t227)) else (some false)) else (some false)) else (some false)) else (some false)) else (some false))) = some r := H
    have A6 := Aside0.mk A60
    clear A60
    by_cases c7 : t225 = true
    · subst c7
      have H1 : (if t222 = a0 then (if t223 = (t219.length : Int) then (if t223 ≥ 1 then (if t223 ≤ 4 then (if t224 = 0 then ((cringlelaw02_alive.f k).bind fun t226 => (some t226)) else (some false)) else (some false)) else (some false)) else (some false)) else (some false)) = some r := by rw [if_pos rfl] at H; exact H
      clear H
      have H := H1
      clear H1
      by_cases c8 : t222 = a0
      · rw [if_pos c8] at H
        have c8b0 : (t222 == a0) = true := beq_iff_eq.mpr c8
        have c8b1 : (t222 != a0) = false := bne_eq_false_iff_eq.mpr c8
        clear c8
        by_cases c9 : t223 = (t219.length : Int)
        · rw [if_pos c9] at H
          have c9b0 : (t223 == (t219.length : Int)) = true := beq_iff_eq.mpr c9
          have c9b1 : (t223 != (t219.length : Int)) = false := bne_eq_false_iff_eq.mpr c9
          clear c9
          by_cases c10 : t223 ≥ 1
          · rw [if_pos c10] at H
            have c10b0 : decide (1 ≤ t223) = true := decide_eq_true c10
            clear c10
            by_cases c11 : t223 ≤ 4
            · rw [if_pos c11] at H
              have c11b0 : decide (t223 ≤ 4) = true := decide_eq_true c11
              clear c11
              by_cases c12 : t224 = 0
              · rw [if_pos c12] at H
                have c12b0 : (t224 == 0) = true := beq_iff_eq.mpr c12
                have c12b1 : (t224 != 0) = false := bne_eq_false_iff_eq.mpr c12
                clear c12
                replace H := Option.bind_eq_some_iff.mp H
                obtain ⟨t226, A130, H⟩ := H
                replace H : (some t226) = some r := H
                have A13 := Aside0.mk A130
                clear A130
                obtain rfl := Option.some.inj H
                go_enter Tryd.func5, Tryd.ntmps5
                go_wp2_with (first | ((with_reducible refine gate_dst (N := 10) rfl ?_); (try (refine gate_guard (by rfl) ?_; dsimp only)); refine Kd.R_lit (Kd.int .i32) _ 21 ?hg (N := 10) ?hd (xs := ([a0] : List Int)) (inner := [.int .i32 a0]) (ok := fun _ => True) (okp := fun _ => True) ?hr ?hp (fun _ hk => hk) trivial (Below.refl _ _) (Nat.le_refl _) (by simp) ?_; (case hd => rfl); (case hg => rfl); (case hr => first | (go_simp; done) | (go_simp; rfl)); (case hp => exact (Reps.one (show Kd.M (Kd.int .i32) _ _ _ a0 [.int .i32 a0] from rfl) (Reps.none _ _))); intro v217 w14 ho15 hb hg_ hnew_; clear hg_ hnew_; (first | rw [← Ny216.out] at ho15 | (simp only [Int.reduceToNat] at ho15; rw [← Ny216.out] at ho15)); have n0_ := Aside0.mk (Kd.R_lower ho15 (below_size (by repeat (first | (with_reducible first | exact HB.out | apply below_alloc | apply pw_below_drewN | apply below_drew1) | exact HB.out)))); have n1_ := Aside0.mk (below_step (by repeat (first | (with_reducible first | exact HB.out | apply below_alloc | apply pw_below_drewN | apply below_drew1) | exact HB.out)) hb); clear HB; have HO218 := n0_; have HB := n1_; clear n0_ n1_; clear hb ho15; obtain ⟨Ao16, co16, eo16⟩ := Kd.R_slice HO218.out; subst eo16) | ((with_reducible refine gate_callee (f := 11) rfl ?_); refine goesL_ (some 11) rfl rfl Tryd.func11 (by kernel_rfl) rfl #[.slice none 0 0, .slice Ao16 y216.length co16] rfl (by (try simp only [List.map_toArray, List.map_cons, List.map_nil]); first | done | rfl | (simp only [List.length_drop, List.length_take]; rfl)) ?_; (refine (utf_Put.calls k _ _ ([] : List Int) _ _ y216 t219 _ ?side1 ?side2 ?side3 ?side4 A3.out).mono ?_); (case side1 => exact Kd.C_nil _ _); (case side2 => exact Nat.le_refl _); (case side3 => repeat (first | exact (Kd.R_reads' HO218.out).2.2 | (with_reducible refine Kd.C_alloc ?_ _) | (with_reducible refine Kd.C_drewN ?_ _) | (with_reducible refine Kd.C_drew ?_))); (case side4 => exact (Kd.R_reads' HO218.out).2.1); rintro e w17 ⟨v220, rfl, ho0, hb⟩; refine ⟨_, rfl, ?_⟩; have n0_ := Aside0.mk (Kd.R_below (by (with_reducible repeat (first | apply Kd.R_alloc | apply Kd.R_drewN | apply Kd.R_drew)); exact HO218.out) hb); have n1_ := Aside0.mk (Kd.R_lower ho0 (below_size (by repeat (first | (with_reducible first | exact HB.out | apply below_alloc | apply pw_below_drewN | apply below_drew1) | exact HB.out)))); have n2_ := Aside0.mk (below_step (by repeat (first | (with_reducible first | exact HB.out | apply below_alloc | apply pw_below_drewN | apply below_drew1) | exact HB.out)) hb); clear HO218; clear HB; have HO218 := n0_; have HO221 := n1_; have HB := n2_; clear n0_ n1_ n2_; (try clear hb); (try clear hb2); (try clear hk); (try clear hi); (try clear ho0); have hcv18 := own_string (P := Tryd.prog) Tryd.underlying22 Tryd.underlying5 Tryd.underlying9 (Kd.own_of_R HO221.out)) | ((with_reducible refine gate_callee (f := 13) rfl ?_); refine goesL_ (some 17) rfl rfl Tryd.func13 (by kernel_rfl) rfl #[.string ((strOfNums t219) ++ a1)] rfl (by (try simp only [List.map_toArray, List.map_cons, List.map_nil]); first | done | rfl | (simp only [List.length_drop, List.length_take]; rfl)) ?_; (with_reducible refine (utf_Next.calls k ((strOfNums t219) ++ a1) t222 t223 t224 _ A5.out).mono ?_); rintro e w19 ⟨rfl, hb⟩; refine ⟨_, rfl, ?_⟩; have n0_ := Aside0.mk (Kd.R_below (by (with_reducible repeat (first | apply Kd.R_alloc | apply Kd.R_drewN | apply Kd.R_drew)); exact HO218.out) hb); have n1_ := Aside0.mk (Kd.R_below (by (with_reducible repeat (first | apply Kd.R_alloc | apply Kd.R_drewN | apply Kd.R_drew)); exact HO221.out) hb); have n2_ := Aside0.mk (below_step (by repeat (first | (with_reducible first | exact HB.out | apply below_alloc | apply pw_below_drewN | apply below_drew1) | exact HB.out)) hb); clear HO218; clear HO221; clear HB; have HO218 := n0_; have HO221 := n1_; have HB := n2_; clear n0_ n1_ n2_; (try clear hb); (try clear hb2); (try clear hk); (try clear hi)) | ((with_reducible refine gate_callee (f := 15) rfl ?_); refine goesL_ (some 22) rfl rfl Tryd.func15 (by kernel_rfl) rfl #[.int .i32 a0] rfl (by (try simp only [List.map_toArray, List.map_cons, List.map_nil]); first | done | rfl | (simp only [List.length_drop, List.length_take]; rfl)) ?_; (with_reducible refine (cringleref02_Right.calls a0 true _ A6.out).mono ?_); rintro e w' ⟨rfl, ⟨nd, rfl⟩⟩; refine ⟨_, rfl, ?_⟩; obtain ⟨Ao20, co20, eo20⟩ := Kd.R_slice HO221.out; subst eo20) | (go_at_call 10; (with_reducible refine (cringlelaw02_alive.calls k  t226 _ A13.out).mono ?_); rintro e w21 ⟨rfl, hb⟩; have n0_ := Aside0.mk (Kd.R_below (by (with_reducible repeat (first | apply Kd.R_alloc | apply Kd.R_drewN | apply Kd.R_drew)); exact HO218.out) hb); have n1_ := Aside0.mk (Kd.R_below (by (with_reducible repeat (first | apply Kd.R_alloc | apply Kd.R_drewN | apply Kd.R_drew)); exact HO221.out) hb); have n2_ := Aside0.mk (below_step (by repeat (first | (with_reducible first | exact HB.out | apply below_alloc | apply pw_below_drewN | apply below_drew1) | exact HB.out)) hb); clear HO218; clear HO221; clear HB; have HO218 := n0_; have HO221 := n1_; have HB := n2_; clear n0_ n1_ n2_; (try clear hb); (try clear hb2); (try clear hk); (try clear hi)))
                go_ret
                exact ⟨by first | rfl | (simp [errW_none, errW_some] <;> rfl) | (simp [*, errW_none, errW_some] <;> rfl), by repeat (first | (with_reducible first | exact HB.out | apply below_alloc | apply pw_below_drewN | apply below_drew1) | exact HB.out)⟩
              · rw [if_neg c12] at H
                have c12b0 : (t224 == 0) = false := beq_eq_false_iff_ne.mpr c12
                have c12b1 : (t224 != 0) = true := bne_iff_ne.mpr c12
                exact absurd (Option.some.inj H) (by rw [htrue.out]; decide)
            · rw [if_neg c11] at H
              have c11b0 : decide (t223 ≤ 4) = false := decide_eq_false c11
              clear c11
              exact absurd (Option.some.inj H) (by rw [htrue.out]; decide)
          · rw [if_neg c10] at H
            have c10b0 : decide (1 ≤ t223) = false := decide_eq_false c10
            clear c10
            exact absurd (Option.some.inj H) (by rw [htrue.out]; decide)
        · rw [if_neg c9] at H
          have c9b0 : (t223 == (t219.length : Int)) = false := beq_eq_false_iff_ne.mpr c9
          have c9b1 : (t223 != (t219.length : Int)) = true := bne_iff_ne.mpr c9
          exact absurd (Option.some.inj H) (by rw [htrue.out]; decide)
      · rw [if_neg c8] at H
        have c8b0 : (t222 == a0) = false := beq_eq_false_iff_ne.mpr c8
        have c8b1 : (t222 != a0) = true := bne_iff_ne.mpr c8
        exact absurd (Option.some.inj H) (by rw [htrue.out]; decide)
    · replace c7 := Bool.eq_false_iff.mpr c7
      subst c7
      have H1 : (if t222 = 65533 then (if t223 = (t219.length : Int) then (if t223 ≥ 1 then (if t223 ≤ 4 then (if t224 = 0 then ((cringlelaw02_alive.f k).bind fun t227 => (some t227)) else (some false)) else (some false)) else (some false)) else (some false)) else (some false)) = some r := by rw [if_neg (show ¬ (false = true) by decide)] at H; exact H
      clear H
      have H := H1
      clear H1
      by_cases c22 : t222 = 65533
      · rw [if_pos c22] at H
        have c22b0 : (t222 == 65533) = true := beq_iff_eq.mpr c22
        have c22b1 : (t222 != 65533) = false := bne_eq_false_iff_eq.mpr c22
        clear c22
        by_cases c23 : t223 = (t219.length : Int)
        · rw [if_pos c23] at H
          have c23b0 : (t223 == (t219.length : Int)) = true := beq_iff_eq.mpr c23
          have c23b1 : (t223 != (t219.length : Int)) = false := bne_eq_false_iff_eq.mpr c23
          clear c23
          by_cases c24 : t223 ≥ 1
          · rw [if_pos c24] at H
            have c24b0 : decide (1 ≤ t223) = true := decide_eq_true c24
            clear c24
            by_cases c25 : t223 ≤ 4
            · rw [if_pos c25] at H
              have c25b0 : decide (t223 ≤ 4) = true := decide_eq_true c25
              clear c25
              by_cases c26 : t224 = 0
              · rw [if_pos c26] at H
                have c26b0 : (t224 == 0) = true := beq_iff_eq.mpr c26
                have c26b1 : (t224 != 0) = false := bne_eq_false_iff_eq.mpr c26
                clear c26
                replace H := Option.bind_eq_some_iff.mp H
                obtain ⟨t227, A270, H⟩ := H
                replace H : (some t227) = some r := H
                have A27 := Aside0.mk A270
                clear A270
                obtain rfl := Option.some.inj H
                go_enter Tryd.func5, Tryd.ntmps5
                go_wp2_with (first | ((with_reducible refine gate_dst (N := 10) rfl ?_); (try (refine gate_guard (by rfl) ?_; dsimp only)); refine Kd.R_lit (Kd.int .i32) _ 21 ?hg (N := 10) ?hd (xs := ([a0] : List Int)) (inner := [.int .i32 a0]) (ok := fun _ => True) (okp := fun _ => True) ?hr ?hp (fun _ hk => hk) trivial (Below.refl _ _) (Nat.le_refl _) (by simp) ?_; (case hd => rfl); (case hg => rfl); (case hr => first | (go_simp; done) | (go_simp; rfl)); (case hp => exact (Reps.one (show Kd.M (Kd.int .i32) _ _ _ a0 [.int .i32 a0] from rfl) (Reps.none _ _))); intro v217 w28 ho29 hb hg_ hnew_; clear hg_ hnew_; (first | rw [← Ny216.out] at ho29 | (simp only [Int.reduceToNat] at ho29; rw [← Ny216.out] at ho29)); have n0_ := Aside0.mk (Kd.R_lower ho29 (below_size (by repeat (first | (with_reducible first | exact HB.out | apply below_alloc | apply pw_below_drewN | apply below_drew1) | exact HB.out)))); have n1_ := Aside0.mk (below_step (by repeat (first | (with_reducible first | exact HB.out | apply below_alloc | apply pw_below_drewN | apply below_drew1) | exact HB.out)) hb); clear HB; have HO218 := n0_; have HB := n1_; clear n0_ n1_; clear hb ho29; obtain ⟨Ao30, co30, eo30⟩ := Kd.R_slice HO218.out; subst eo30) | ((with_reducible refine gate_callee (f := 11) rfl ?_); refine goesL_ (some 11) rfl rfl Tryd.func11 (by kernel_rfl) rfl #[.slice none 0 0, .slice Ao30 y216.length co30] rfl (by (try simp only [List.map_toArray, List.map_cons, List.map_nil]); first | done | rfl | (simp only [List.length_drop, List.length_take]; rfl)) ?_; (refine (utf_Put.calls k _ _ ([] : List Int) _ _ y216 t219 _ ?side1 ?side2 ?side3 ?side4 A3.out).mono ?_); (case side1 => exact Kd.C_nil _ _); (case side2 => exact Nat.le_refl _); (case side3 => repeat (first | exact (Kd.R_reads' HO218.out).2.2 | (with_reducible refine Kd.C_alloc ?_ _) | (with_reducible refine Kd.C_drewN ?_ _) | (with_reducible refine Kd.C_drew ?_))); (case side4 => exact (Kd.R_reads' HO218.out).2.1); rintro e w31 ⟨v220, rfl, ho0, hb⟩; refine ⟨_, rfl, ?_⟩; have n0_ := Aside0.mk (Kd.R_below (by (with_reducible repeat (first | apply Kd.R_alloc | apply Kd.R_drewN | apply Kd.R_drew)); exact HO218.out) hb); have n1_ := Aside0.mk (Kd.R_lower ho0 (below_size (by repeat (first | (with_reducible first | exact HB.out | apply below_alloc | apply pw_below_drewN | apply below_drew1) | exact HB.out)))); have n2_ := Aside0.mk (below_step (by repeat (first | (with_reducible first | exact HB.out | apply below_alloc | apply pw_below_drewN | apply below_drew1) | exact HB.out)) hb); clear HO218; clear HB; have HO218 := n0_; have HO221 := n1_; have HB := n2_; clear n0_ n1_ n2_; (try clear hb); (try clear hb2); (try clear hk); (try clear hi); (try clear ho0); have hcv32 := own_string (P := Tryd.prog) Tryd.underlying22 Tryd.underlying5 Tryd.underlying9 (Kd.own_of_R HO221.out)) | ((with_reducible refine gate_callee (f := 13) rfl ?_); refine goesL_ (some 17) rfl rfl Tryd.func13 (by kernel_rfl) rfl #[.string ((strOfNums t219) ++ a1)] rfl (by (try simp only [List.map_toArray, List.map_cons, List.map_nil]); first | done | rfl | (simp only [List.length_drop, List.length_take]; rfl)) ?_; (with_reducible refine (utf_Next.calls k ((strOfNums t219) ++ a1) t222 t223 t224 _ A5.out).mono ?_); rintro e w33 ⟨rfl, hb⟩; refine ⟨_, rfl, ?_⟩; have n0_ := Aside0.mk (Kd.R_below (by (with_reducible repeat (first | apply Kd.R_alloc | apply Kd.R_drewN | apply Kd.R_drew)); exact HO218.out) hb); have n1_ := Aside0.mk (Kd.R_below (by (with_reducible repeat (first | apply Kd.R_alloc | apply Kd.R_drewN | apply Kd.R_drew)); exact HO221.out) hb); have n2_ := Aside0.mk (below_step (by repeat (first | (with_reducible first | exact HB.out | apply below_alloc | apply pw_below_drewN | apply below_drew1) | exact HB.out)) hb); clear HO218; clear HO221; clear HB; have HO218 := n0_; have HO221 := n1_; have HB := n2_; clear n0_ n1_ n2_; (try clear hb); (try clear hb2); (try clear hk); (try clear hi)) | ((with_reducible refine gate_callee (f := 15) rfl ?_); refine goesL_ (some 22) rfl rfl Tryd.func15 (by kernel_rfl) rfl #[.int .i32 a0] rfl (by (try simp only [List.map_toArray, List.map_cons, List.map_nil]); first | done | rfl | (simp only [List.length_drop, List.length_take]; rfl)) ?_; (with_reducible refine (cringleref02_Right.calls a0 false _ A6.out).mono ?_); rintro e w' ⟨rfl, ⟨nd, rfl⟩⟩; refine ⟨_, rfl, ?_⟩; obtain ⟨Ao34, co34, eo34⟩ := Kd.R_slice HO221.out; subst eo34) | (go_at_call 10; (with_reducible refine (cringlelaw02_alive.calls k  t227 _ A27.out).mono ?_); rintro e w35 ⟨rfl, hb⟩; have n0_ := Aside0.mk (Kd.R_below (by (with_reducible repeat (first | apply Kd.R_alloc | apply Kd.R_drewN | apply Kd.R_drew)); exact HO218.out) hb); have n1_ := Aside0.mk (Kd.R_below (by (with_reducible repeat (first | apply Kd.R_alloc | apply Kd.R_drewN | apply Kd.R_drew)); exact HO221.out) hb); have n2_ := Aside0.mk (below_step (by repeat (first | (with_reducible first | exact HB.out | apply below_alloc | apply pw_below_drewN | apply below_drew1) | exact HB.out)) hb); clear HO218; clear HO221; clear HB; have HO218 := n0_; have HO221 := n1_; have HB := n2_; clear n0_ n1_ n2_; (try clear hb); (try clear hb2); (try clear hk); (try clear hi)))
                go_ret
                exact ⟨by first | rfl | (simp [errW_none, errW_some] <;> rfl) | (simp [*, errW_none, errW_some] <;> rfl), by repeat (first | (with_reducible first | exact HB.out | apply below_alloc | apply pw_below_drewN | apply below_drew1) | exact HB.out)⟩
              · rw [if_neg c26] at H
                have c26b0 : (t224 == 0) = false := beq_eq_false_iff_ne.mpr c26
                have c26b1 : (t224 != 0) = true := bne_iff_ne.mpr c26
                exact absurd (Option.some.inj H) (by rw [htrue.out]; decide)
            · rw [if_neg c25] at H
              have c25b0 : decide (t223 ≤ 4) = false := decide_eq_false c25
              clear c25
              exact absurd (Option.some.inj H) (by rw [htrue.out]; decide)
          · rw [if_neg c24] at H
            have c24b0 : decide (1 ≤ t223) = false := decide_eq_false c24
            clear c24
            exact absurd (Option.some.inj H) (by rw [htrue.out]; decide)
        · rw [if_neg c23] at H
          have c23b0 : (t223 == (t219.length : Int)) = false := beq_eq_false_iff_ne.mpr c23
          have c23b1 : (t223 != (t219.length : Int)) = true := bne_iff_ne.mpr c23
          exact absurd (Option.some.inj H) (by rw [htrue.out]; decide)
      · rw [if_neg c22] at H
        have c22b0 : (t222 == 65533) = false := beq_eq_false_iff_ne.mpr c22
        have c22b1 : (t222 != 65533) = true := bne_iff_ne.mpr c22
        exact absurd (Option.some.inj H) (by rw [htrue.out]; decide)
  · rw [if_neg c4] at H
    exact absurd H (by simp)

end Go.Proofs.YtmaeodkdddbhoaaDoor.Q
