-- printed by a program of the session's own; Lean checks it
import Derived.Test.YtopaheopdpkjbaaDoorQ0
import Derived.Test.YtopaheopdpkjbaaDoorQ4
namespace Go.Proofs.YtopaheopdpkjbaaDoor.Q
open Go.RowKit Go.Proofs.YtopaheopdpkjbaaDoorW.PrintWords Go.Proofs.YtopaheopdpkjbaaDoorW.PrintLast Go.Proofs.YtopaheopdpkjbaaDoorW.PrintMore
attribute [local go_sem] max2_int min2_int max_two min_two max_three min_three max_four min_four   -- for this text's walks alone
set_option linter.unusedVariables false
set_option linter.unusedSimpArgs false

/-! ### cringleref02_good: function 68 -/
def cringleref02_good.f (a0 : Int) (a1 : Int) (a2 : Int) : Option (Bool) := if a1 = 1 then (if a0 = 224 then (if a2 ≥ 160 then (some (decide (a2 ≤ 191))) else (some false)) else (if a0 = 237 then (if a2 ≥ 128 then (some (decide (a2 ≤ 159))) else (some false)) else (if a0 = 240 then (if a2 ≥ 144 then (some (decide (a2 ≤ 191))) else (some false)) else (if a0 = 244 then (if a2 ≥ 128 then (some (decide (a2 ≤ 143))) else (some false)) else (if a2 ≥ 128 then (some (decide (a2 ≤ 191))) else (some false)))))) else (if a2 ≥ 128 then (some (decide (a2 ≤ 191))) else (some false))
set_option maxHeartbeats 8000000 in
set_option maxRecDepth 100000 in
theorem cringleref02_good.calls (a0 : Int) (a1 : Int) (a2 : Int) (r : Bool) (w : World) (h : cringleref02_good.f a0 a1 a2 = some r) :
    Calls Tryd.prog 68 #[.int .u8 a0, .int .i64 a1, .int .u8 a2] w fun e w' => e = .returned (.bool r) ∧ Drawn0 w w' := by
  have H : (if a1 = 1 then (if a0 = 224 then (if a2 ≥ 160 then (some (decide (a2 ≤ 191))) else (some false)) else (if a0 = 237 then (if a2 ≥ 128 then (some (decide (a2 ≤ 159))) else (some false)) else (if a0 = 240 then (if a2 ≥ 144 then (some (decide (a2 ≤ 191))) else (some false)) else (if a0 = 244 then (if a2 ≥ 128 then (some (decide (a2 ≤ 143))) else (some false)) else (if a2 ≥ 128 then (some (decide (a2 ≤ 191))) else (some false)))))) else (if a2 ≥ 128 then (some (decide (a2 ≤ 191))) else (some false))) = some r := h
  clear h
  by_cases c4 : a1 = 1
  · rw [if_pos c4] at H
    have c4b0 : (a1 == 1) = true := beq_iff_eq.mpr c4
    have c4b1 : (a1 != 1) = false := bne_eq_false_iff_eq.mpr c4
    clear c4
    by_cases c5 : a0 = 224
    · rw [if_pos c5] at H
      have c5b0 : (a0 == 224) = true := beq_iff_eq.mpr c5
      have c5b1 : (a0 != 224) = false := bne_eq_false_iff_eq.mpr c5
      clear c5
      by_cases c6 : a2 ≥ 160
      · rw [if_pos c6] at H
        have c6b0 : decide (160 ≤ a2) = true := decide_eq_true c6
        clear c6
        obtain rfl := Option.some.inj H
        go_enter Tryd.func68, Tryd.ntmps68
        go_wp2
        go_ret
        exact ⟨by first | rfl | (simp; done) | (simp [*]; done) | (simp; unfold wrap64; omega), by repeat (first | exact Drawn0.refl _ | apply Drawn0.step)⟩
      · rw [if_neg c6] at H
        have c6b0 : decide (160 ≤ a2) = false := decide_eq_false c6
        clear c6
        obtain rfl := Option.some.inj H
        go_enter Tryd.func68, Tryd.ntmps68
        go_wp2
        go_ret
        exact ⟨by first | rfl | (simp; done) | (simp [*]; done) | (simp; unfold wrap64; omega), by repeat (first | exact Drawn0.refl _ | apply Drawn0.step)⟩
    · rw [if_neg c5] at H
      have c5b0 : (a0 == 224) = false := beq_eq_false_iff_ne.mpr c5
      have c5b1 : (a0 != 224) = true := bne_iff_ne.mpr c5
      by_cases c7 : a0 = 237
      · rw [if_pos c7] at H
        have c7b0 : (a0 == 237) = true := beq_iff_eq.mpr c7
        have c7b1 : (a0 != 237) = false := bne_eq_false_iff_eq.mpr c7
        clear c7
        by_cases c8 : a2 ≥ 128
        · rw [if_pos c8] at H
          have c8b0 : decide (128 ≤ a2) = true := decide_eq_true c8
          clear c8
          obtain rfl := Option.some.inj H
          go_enter Tryd.func68, Tryd.ntmps68
          go_wp2
          go_ret
          exact ⟨by first | rfl | (simp; done) | (simp [*]; done) | (simp; unfold wrap64; omega), by repeat (first | exact Drawn0.refl _ | apply Drawn0.step)⟩
        · rw [if_neg c8] at H
          have c8b0 : decide (128 ≤ a2) = false := decide_eq_false c8
          clear c8
          obtain rfl := Option.some.inj H
          go_enter Tryd.func68, Tryd.ntmps68
          go_wp2
          go_ret
          exact ⟨by first | rfl | (simp; done) | (simp [*]; done) | (simp; unfold wrap64; omega), by repeat (first | exact Drawn0.refl _ | apply Drawn0.step)⟩
      · rw [if_neg c7] at H
        have c7b0 : (a0 == 237) = false := beq_eq_false_iff_ne.mpr c7
        have c7b1 : (a0 != 237) = true := bne_iff_ne.mpr c7
        by_cases c9 : a0 = 240
        · rw [if_pos c9] at H
          have c9b0 : (a0 == 240) = true := beq_iff_eq.mpr c9
          have c9b1 : (a0 != 240) = false := bne_eq_false_iff_eq.mpr c9
          clear c9
          by_cases c10 : a2 ≥ 144
          · rw [if_pos c10] at H
            have c10b0 : decide (144 ≤ a2) = true := decide_eq_true c10
            clear c10
            obtain rfl := Option.some.inj H
            go_enter Tryd.func68, Tryd.ntmps68
            go_wp2
            go_ret
            exact ⟨by first | rfl | (simp; done) | (simp [*]; done) | (simp; unfold wrap64; omega), by repeat (first | exact Drawn0.refl _ | apply Drawn0.step)⟩
          · rw [if_neg c10] at H
            have c10b0 : decide (144 ≤ a2) = false := decide_eq_false c10
            clear c10
            obtain rfl := Option.some.inj H
            go_enter Tryd.func68, Tryd.ntmps68
            go_wp2
            go_ret
            exact ⟨by first | rfl | (simp; done) | (simp [*]; done) | (simp; unfold wrap64; omega), by repeat (first | exact Drawn0.refl _ | apply Drawn0.step)⟩
        · rw [if_neg c9] at H
          have c9b0 : (a0 == 240) = false := beq_eq_false_iff_ne.mpr c9
          have c9b1 : (a0 != 240) = true := bne_iff_ne.mpr c9
          by_cases c11 : a0 = 244
          · rw [if_pos c11] at H
            have c11b0 : (a0 == 244) = true := beq_iff_eq.mpr c11
            have c11b1 : (a0 != 244) = false := bne_eq_false_iff_eq.mpr c11
            clear c11
            by_cases c12 : a2 ≥ 128
            · rw [if_pos c12] at H
              have c12b0 : decide (128 ≤ a2) = true := decide_eq_true c12
              clear c12
              obtain rfl := Option.some.inj H
              go_enter Tryd.func68, Tryd.ntmps68
              go_wp2
              go_ret
              exact ⟨by first | rfl | (simp; done) | (simp [*]; done) | (simp; unfold wrap64; omega), by repeat (first | exact Drawn0.refl _ | apply Drawn0.step)⟩
            · rw [if_neg c12] at H
              have c12b0 : decide (128 ≤ a2) = false := decide_eq_false c12
              clear c12
              obtain rfl := Option.some.inj H
              go_enter Tryd.func68, Tryd.ntmps68
              go_wp2
              go_ret
              exact ⟨by first | rfl | (simp; done) | (simp [*]; done) | (simp; unfold wrap64; omega), by repeat (first | exact Drawn0.refl _ | apply Drawn0.step)⟩
          · rw [if_neg c11] at H
            have c11b0 : (a0 == 244) = false := beq_eq_false_iff_ne.mpr c11
            have c11b1 : (a0 != 244) = true := bne_iff_ne.mpr c11
            by_cases c13 : a2 ≥ 128
            · rw [if_pos c13] at H
              have c13b0 : decide (128 ≤ a2) = true := decide_eq_true c13
              clear c13
              obtain rfl := Option.some.inj H
              go_enter Tryd.func68, Tryd.ntmps68
              go_wp2
              go_ret
              exact ⟨by first | rfl | (simp; done) | (simp [*]; done) | (simp; unfold wrap64; omega), by repeat (first | exact Drawn0.refl _ | apply Drawn0.step)⟩
            · rw [if_neg c13] at H
              have c13b0 : decide (128 ≤ a2) = false := decide_eq_false c13
              clear c13
              obtain rfl := Option.some.inj H
              go_enter Tryd.func68, Tryd.ntmps68
              go_wp2
              go_ret
              exact ⟨by first | rfl | (simp; done) | (simp [*]; done) | (simp; unfold wrap64; omega), by repeat (first | exact Drawn0.refl _ | apply Drawn0.step)⟩
  · rw [if_neg c4] at H
    have c4b0 : (a1 == 1) = false := beq_eq_false_iff_ne.mpr c4
    have c4b1 : (a1 != 1) = true := bne_iff_ne.mpr c4
    by_cases c14 : a2 ≥ 128
    · rw [if_pos c14] at H
      have c14b0 : decide (128 ≤ a2) = true := decide_eq_true c14
      clear c14
      obtain rfl := Option.some.inj H
      go_enter Tryd.func68, Tryd.ntmps68
      go_wp2
      go_ret
      exact ⟨by first | rfl | (simp; done) | (simp [*]; done) | (simp; unfold wrap64; omega), by repeat (first | exact Drawn0.refl _ | apply Drawn0.step)⟩
    · rw [if_neg c14] at H
      have c14b0 : decide (128 ≤ a2) = false := decide_eq_false c14
      clear c14
      obtain rfl := Option.some.inj H
      go_enter Tryd.func68, Tryd.ntmps68
      go_wp2
      go_ret
      exact ⟨by first | rfl | (simp; done) | (simp [*]; done) | (simp; unfold wrap64; omega), by repeat (first | exact Drawn0.refl _ | apply Drawn0.step)⟩

/-! ### cringleref02_Next: function 46 -/
mutual
def cringleref02_Next.j1 : Nat → ByteArray → Int → Int → Option (Int × Int × Int)
  | 0, _, _, _ => none
  | k + 1, x0, x5, x6 => if x6 < x5 then (some (65533, x6, 9)) else (if 0 < (x0.size : Int) then (if x5 = 2 then (cringleref02_Next.j2 k x0 x5 (wrap32 ((wrap32 (bt x0 0)) - 192))) else (if x5 = 3 then (cringleref02_Next.j2 k x0 x5 (wrap32 ((wrap32 (bt x0 0)) - 224))) else (if x5 = 4 then (cringleref02_Next.j2 k x0 x5 (wrap32 ((wrap32 (bt x0 0)) - 240))) else (cringleref02_Next.j2 k x0 x5 (wrap32 (bt x0 0)))))) else (none))
def cringleref02_Next.j2 : Nat → ByteArray → Int → Int → Option (Int × Int × Int)
  | 0, _, _, _ => none
  | k + 1, x0, x5, x7 => cringleref02_Next.l1 k x0 x5 x7 1
def cringleref02_Next.l1 : Nat → ByteArray → Int → Int → Int → Option (Int × Int × Int)
  | 0, _, _, _, _ => none
  | k + 1, x0, x5, x7, x8 => if x8 < x5 then (if 0 ≤ x8 then (if x8 < (x0.size : Int) then (cringleref02_Next.l1 k x0 x5 (wrap32 ((wrap32 ((wrap32 (x7 * 64)) + (wrap32 (bt x0 x8)))) - 128)) (wrap64 (x8 + 1))) else (none)) else (none)) else (some (x7, x5, 0))
def cringleref02_Next.l0 : Nat → ByteArray → Int → Int → Option (Int × Int × Int)
  | 0, _, _, _ => none
  | k + 1, x0, x5, x6 => if x6 < x5 then (if x6 < (x0.size : Int) then (if 0 < (x0.size : Int) then (if 0 ≤ x6 then ((cringleref02_good.f (bt x0 0) x6 (bt x0 x6)).bind fun t196 => (if t196 = true then (cringleref02_Next.l0 k x0 x5 (wrap64 (x6 + 1))) else (cringleref02_Next.j1 k x0 x5 x6))) else (none)) else (none)) else (cringleref02_Next.j1 k x0 x5 x6)) else (cringleref02_Next.j1 k x0 x5 x6)
end
def cringleref02_Next.f (k : Nat) (a0 : ByteArray) : Option (Int × Int × Int) := if a0.toList = ([] : List UInt8) then (some (0, 0, 9)) else (if 0 < (a0.size : Int) then ((cringleref02_size.f k (bt a0 0)).bind fun t195 => (if t195 = 0 then (some (65533, 1, 9)) else (cringleref02_Next.l0 k a0 t195 1))) else (none))
theorem cringleref02_Next.mono_l : ∀ k, (∀ y0 y1 y2, LeO (cringleref02_Next.j1 k y0 y1 y2) (cringleref02_Next.j1 (k + 1) y0 y1 y2)) ∧ (∀ y0 y1 y2, LeO (cringleref02_Next.j2 k y0 y1 y2) (cringleref02_Next.j2 (k + 1) y0 y1 y2)) ∧ (∀ y0 y1 y2 y3, LeO (cringleref02_Next.l1 k y0 y1 y2 y3) (cringleref02_Next.l1 (k + 1) y0 y1 y2 y3)) ∧ (∀ y0 y1 y2, LeO (cringleref02_Next.l0 k y0 y1 y2) (cringleref02_Next.l0 (k + 1) y0 y1 y2))
  | 0 => ⟨fun _ _ _ r h => by simp [cringleref02_Next.j1] at h, fun _ _ _ r h => by simp [cringleref02_Next.j2] at h, fun _ _ _ _ r h => by simp [cringleref02_Next.l1] at h, fun _ _ _ r h => by simp [cringleref02_Next.l0] at h⟩
  | k + 1 => by
    obtain ⟨ih0, ih1, ih2, ih3⟩ := cringleref02_Next.mono_l k
    refine ⟨?_, ?_, ?_, ?_⟩
    · intro y0 y1 y2
      unfold cringleref02_Next.j1
      repeat' first
      | (with_reducible exact ih0 _ _ _)
      | (with_reducible exact ih1 _ _ _)
      | (with_reducible exact ih2 _ _ _ _)
      | (with_reducible exact ih3 _ _ _)
      | (with_reducible exact cringleref02_size.mono _ _)
      | (with_reducible exact LeO.refl _)
      | (with_reducible exact LeO.none _)
      | (with_reducible refine LeO.ite ?_ ?_)
      | (with_reducible refine LeO.bind ?_ (fun _ => ?_))
      | exact ih0 _ _ _
      | exact ih1 _ _ _
      | exact ih2 _ _ _ _
      | exact ih3 _ _ _
      | exact cringleref02_size.mono _ _
      | exact LeO.none _
      | refine LeO.ite ?_ ?_
      | refine LeO.bind ?_ (fun _ => ?_)
    · intro y0 y1 y2
      unfold cringleref02_Next.j2
      repeat' first
      | (with_reducible exact ih0 _ _ _)
      | (with_reducible exact ih1 _ _ _)
      | (with_reducible exact ih2 _ _ _ _)
      | (with_reducible exact ih3 _ _ _)
      | (with_reducible exact cringleref02_size.mono _ _)
      | (with_reducible exact LeO.refl _)
      | (with_reducible exact LeO.none _)
      | (with_reducible refine LeO.ite ?_ ?_)
      | (with_reducible refine LeO.bind ?_ (fun _ => ?_))
      | exact ih0 _ _ _
      | exact ih1 _ _ _
      | exact ih2 _ _ _ _
      | exact ih3 _ _ _
      | exact cringleref02_size.mono _ _
      | exact LeO.none _
      | refine LeO.ite ?_ ?_
      | refine LeO.bind ?_ (fun _ => ?_)
    · intro y0 y1 y2 y3
      unfold cringleref02_Next.l1
      repeat' first
      | (with_reducible exact ih0 _ _ _)
      | (with_reducible exact ih1 _ _ _)
      | (with_reducible exact ih2 _ _ _ _)
      | (with_reducible exact ih3 _ _ _)
      | (with_reducible exact cringleref02_size.mono _ _)
      | (with_reducible exact LeO.refl _)
      | (with_reducible exact LeO.none _)
      | (with_reducible refine LeO.ite ?_ ?_)
      | (with_reducible refine LeO.bind ?_ (fun _ => ?_))
      | exact ih0 _ _ _
      | exact ih1 _ _ _
      | exact ih2 _ _ _ _
      | exact ih3 _ _ _
      | exact cringleref02_size.mono _ _
      | exact LeO.none _
      | refine LeO.ite ?_ ?_
      | refine LeO.bind ?_ (fun _ => ?_)
    · intro y0 y1 y2
      unfold cringleref02_Next.l0
      repeat' first
      | (with_reducible exact ih0 _ _ _)
      | (with_reducible exact ih1 _ _ _)
      | (with_reducible exact ih2 _ _ _ _)
      | (with_reducible exact ih3 _ _ _)
      | (with_reducible exact cringleref02_size.mono _ _)
      | (with_reducible exact LeO.refl _)
      | (with_reducible exact LeO.none _)
      | (with_reducible refine LeO.ite ?_ ?_)
      | (with_reducible refine LeO.bind ?_ (fun _ => ?_))
      | exact ih0 _ _ _
      | exact ih1 _ _ _
      | exact ih2 _ _ _ _
      | exact ih3 _ _ _
      | exact cringleref02_size.mono _ _
      | exact LeO.none _
      | refine LeO.ite ?_ ?_
      | refine LeO.bind ?_ (fun _ => ?_)
theorem cringleref02_Next.mono : ∀ a0 k, LeO (cringleref02_Next.f k a0) (cringleref02_Next.f (k + 1) a0) := by
  intro a0 k
  obtain ⟨ih0, ih1, ih2, ih3⟩ := cringleref02_Next.mono_l k
  unfold cringleref02_Next.f
  repeat' first
      | (with_reducible exact ih0 _ _ _)
      | (with_reducible exact ih1 _ _ _)
      | (with_reducible exact ih2 _ _ _ _)
      | (with_reducible exact ih3 _ _ _)
      | (with_reducible exact cringleref02_size.mono _ _)
      | (with_reducible exact LeO.refl _)
      | (with_reducible exact LeO.none _)
      | (with_reducible refine LeO.ite ?_ ?_)
      | (with_reducible refine LeO.bind ?_ (fun _ => ?_))
      | exact ih0 _ _ _
      | exact ih1 _ _ _
      | exact ih2 _ _ _ _
      | exact ih3 _ _ _
      | exact cringleref02_size.mono _ _
      | exact LeO.none _
      | refine LeO.ite ?_ ?_
      | refine LeO.bind ?_ (fun _ => ?_)
set_option maxHeartbeats 8000000 in
set_option maxRecDepth 100000 in
theorem cringleref02_Next.calls (k : Nat) (a0 : ByteArray) (r1 : Int) (r2 : Int) (r3 : Int) (w : World) (h : cringleref02_Next.f k a0 = some (r1, r2, r3)) :
    Calls Tryd.prog 46 #[.string a0] w fun e w' => e = .returned (.tuple #[.int .i32 r1, .int .i64 r2, .int .i64 r3]) ∧ Drawn0 w w' := by
  have H : (if a0.toList = ([] : List UInt8) then (some (0, 0, 9)) else (if 0 < (a0.size : Int) then ((cringleref02_size.f k (bt a0 0)).bind fun t195 => (if t195 = 0 then (some (65533, 1, 9)) else (cringleref02_Next.l0 k a0 t195 1))) else (none))) = some (r1, r2, r3) := h
  clear h
  by_cases c2 : a0.toList = ([] : List UInt8)
  · rw [if_pos c2] at H
    have c2b0 : (a0.toList == ([] : List UInt8)) = true := beq_iff_eq.mpr c2
    have c2b1 : (a0.toList != ([] : List UInt8)) = false := bne_eq_false_iff_eq.mpr c2
    clear c2
    simp only [Option.some.injEq, Prod.mk.injEq] at H
    obtain ⟨rfl, rfl, rfl⟩ := H
    go_enter Tryd.func46, Tryd.ntmps46
    go_wp2
    repeat (go_quiet (fail); try go_wp2)
    go_ret3
    exact ⟨by first | rfl | (simp; done) | (simp [*]; done) | (simp; unfold wrap64; omega), by repeat (first | exact Drawn0.refl _ | apply Drawn0.step)⟩
  · rw [if_neg c2] at H
    have c2b0 : (a0.toList == ([] : List UInt8)) = false := beq_eq_false_iff_ne.mpr c2
    have c2b1 : (a0.toList != ([] : List UInt8)) = true := bne_iff_ne.mpr c2
    by_cases c3 : 0 < (a0.size : Int)
    · rw [if_pos c3] at H
      have c3b0 : decide (0 < (a0.size : Int)) = true := decide_eq_true c3
      have c3b1 : decide (0 < a0.size) = true := decide_eq_true (by omega)
      clear c3
      replace H := Option.bind_eq_some_iff.mp H
      obtain ⟨t195, A50, H⟩ := H
      replace H : (if t195 = 0 then (some (65533, 1, 9)) else (cringleref02_Next.l0 k a0 t195 1)) = some (r1, r2, r3) := H
      have A5 := Aside0.mk A50
      clear A50
      by_cases c6 : t195 = 0
      · rw [if_pos c6] at H
        have c6b0 : (t195 == 0) = true := beq_iff_eq.mpr c6
        have c6b1 : (t195 != 0) = false := bne_eq_false_iff_eq.mpr c6
        clear c6
        simp only [Option.some.injEq, Prod.mk.injEq] at H
        obtain ⟨rfl, rfl, rfl⟩ := H
        have p4 : 0 ≤ (0 : Int) := (by omega)
        have q4 : 0 < a0.size := (by have : (0 : Int) < (a0.size : Int) := of_decide_eq_true (by first | (with_reducible assumption) | assumption); omega)
        have hx4 : ∀ h : 0 < a0.size, ((a0[0]'h).toNat : Int) = bt a0 0 := bt_at a0 0
        clear p4
        have qi4 : (0 < (a0.size : Int)) = True := eq_true (of_decide_eq_true (by first | (with_reducible assumption) | assumption))
        replace q4 := eq_true q4
        go_enter Tryd.func46, Tryd.ntmps46
        go_wp2_with (first | (go_at_call 67; (with_reducible refine (cringleref02_size.calls k (bt a0 0) t195 _ A5.out).mono ?_); rintro e w' ⟨rfl, ⟨nd, rfl⟩⟩; (try first | exact ⟨rfl, _, World.drewN_drewN _ _ _⟩ | exact ⟨rfl, _, Eq.trans (World.drewN_drewN _ _ _) (congrArg (World.drewN _) (Nat.add_assoc _ _ _))⟩)))
        repeat (go_quiet (first | (go_at_call 67; (with_reducible refine (cringleref02_size.calls k (bt a0 0) t195 _ A5.out).mono ?_); rintro e w' ⟨rfl, ⟨nd, rfl⟩⟩; (try first | exact ⟨rfl, _, World.drewN_drewN _ _ _⟩ | exact ⟨rfl, _, Eq.trans (World.drewN_drewN _ _ _) (congrArg (World.drewN _) (Nat.add_assoc _ _ _))⟩))); try go_wp2_with (first | (go_at_call 67; (with_reducible refine (cringleref02_size.calls k (bt a0 0) t195 _ A5.out).mono ?_); rintro e w' ⟨rfl, ⟨nd, rfl⟩⟩; (try first | exact ⟨rfl, _, World.drewN_drewN _ _ _⟩ | exact ⟨rfl, _, Eq.trans (World.drewN_drewN _ _ _) (congrArg (World.drewN _) (Nat.add_assoc _ _ _))⟩))))
        go_ret3
        exact ⟨by first | rfl | (simp; done) | (simp [*]; done) | (simp; unfold wrap64; omega), by repeat (first | exact Drawn0.refl _ | apply Drawn0.step)⟩
      · rw [if_neg c6] at H
        have c6b0 : (t195 == 0) = false := beq_eq_false_iff_ne.mpr c6
        have c6b1 : (t195 != 0) = true := bne_iff_ne.mpr c6
        have HC7 := Aside0.mk H
        clear H
        have p4 : 0 ≤ (0 : Int) := (by omega)
        have q4 : 0 < a0.size := (by have : (0 : Int) < (a0.size : Int) := of_decide_eq_true (by first | (with_reducible assumption) | assumption); omega)
        have hx4 : ∀ h : 0 < a0.size, ((a0[0]'h).toNat : Int) = bt a0 0 := bt_at a0 0
        clear p4
        have qi4 : (0 < (a0.size : Int)) = True := eq_true (of_decide_eq_true (by first | (with_reducible assumption) | assumption))
        replace q4 := eq_true q4
        go_enter Tryd.func46, Tryd.ntmps46
        go_upto_block 0 with (first | (go_at_call 67; (with_reducible refine (cringleref02_size.calls k (bt a0 0) t195 _ A5.out).mono ?_); rintro e w' ⟨rfl, ⟨nd, rfl⟩⟩; (try first | exact ⟨rfl, _, World.drewN_drewN _ _ _⟩ | exact ⟨rfl, _, Eq.trans (World.drewN_drewN _ _ _) (congrArg (World.drewN _) (Nat.add_assoc _ _ _))⟩)))
        repeat (go_quiet (first | (go_at_call 67; (with_reducible refine (cringleref02_size.calls k (bt a0 0) t195 _ A5.out).mono ?_); rintro e w' ⟨rfl, ⟨nd, rfl⟩⟩; (try first | exact ⟨rfl, _, World.drewN_drewN _ _ _⟩ | exact ⟨rfl, _, Eq.trans (World.drewN_drewN _ _ _) (congrArg (World.drewN _) (Nat.add_assoc _ _ _))⟩))); go_upto_block 0 with (first | (go_at_call 67; (with_reducible refine (cringleref02_size.calls k (bt a0 0) t195 _ A5.out).mono ?_); rintro e w' ⟨rfl, ⟨nd, rfl⟩⟩; (try first | exact ⟨rfl, _, World.drewN_drewN _ _ _⟩ | exact ⟨rfl, _, Eq.trans (World.drewN_drewN _ _ _) (congrArg (World.drewN _) (Nat.add_assoc _ _ _))⟩))))
        (try simp only [Act.put, List.setIfInBounds_toArray, List.set_cons_zero, List.set_cons_succ])
        go_cut [6] (fun v6 wc => ∃ (kq : Nat) (x6_6 : Int), v6 = .int .i64 x6_6 ∧ Aside0 (cringleref02_Next.j1 kq a0 t195 x6_6 = some (r1, r2, r3)) ∧ Aside0 (kq ≤ k) ∧ Drawn0 w wc)
        case first =>
          have H := HC7.out
          clear HC7
          have H' := Aside0.mk H
          clear H
          go_wp2
          repeat (go_quiet (fail); try go_wp2)
          go_loopg [6] k (fun kq v6 w' => ∃ (x6_1 : Int), v6 = .int .i64 x6_1 ∧ Aside0 (cringleref02_Next.l0 kq a0 t195 x6_1 = some (r1, r2, r3)) ∧ Aside0 (kq ≤ k) ∧ Drawn0 w w')
          case atStart => exact ⟨(1), (by first | rfl | (simp; done) | (simp [*]; done) | (simp; unfold wrap64; omega)), H', ⟨Nat.le_refl _⟩, by repeat (first | exact Drawn0.refl _ | apply Drawn0.step)⟩
          case round =>
            clear H'
            try clear c2
            try clear c2b0
            try clear c2b1
            try clear p2
            try clear c3
            try clear c3b0
            try clear c3b1
            try clear c4
            try clear p4
            try clear q4
            try clear hx4
            try clear qi4
            try clear c6
            try clear c6b0
            try clear c6b1
            try clear p6
            try clear p4
            try clear q4
            obtain ⟨x6_1, rfl, HA, HK1, ⟨m1, rfl⟩⟩ := hrel
            cases gk with
            | zero => exact absurd HA.out (by simp [cringleref02_Next.l0])
            | succ k1 =>
              have H := HA.out
              clear HA
              simp only [cringleref02_Next.l0] at H
              by_cases c8 : x6_1 < t195
              · rw [if_pos c8] at H
                have c8b0 : decide (x6_1 < t195) = true := decide_eq_true c8
                clear c8
                (first | rw [c8b0] | (simp only [i64_w, i32_w]; rw [c8b0]) | skip)
                by_cases c9 : x6_1 < (a0.size : Int)
                · rw [if_pos c9] at H
                  have c9b0 : decide (x6_1 < (a0.size : Int)) = true := decide_eq_true c9
                  clear c9
                  by_cases c10 : 0 < (a0.size : Int)
                  · rw [if_pos c10] at H
                    have c10b0 : decide (0 < (a0.size : Int)) = true := decide_eq_true c10
                    have c10b1 : decide (0 < a0.size) = true := decide_eq_true (by omega)
                    clear c10
                    by_cases c12 : 0 ≤ x6_1
                    · rw [if_pos c12] at H
                      have c12b0 : decide (0 ≤ x6_1) = true := decide_eq_true c12
                      clear c12
                      replace H := Option.bind_eq_some_iff.mp H
                      obtain ⟨t196, A140, H⟩ := H
                      replace H : (if t196 = true then (cringleref02_Next.l0 k1 a0 t195 (wrap64 (x6_1 + 1))) else (cringleref02_Next.j1 k1 a0 t195 x6_1)) = some (r1, r2, r3) := H
                      have A14 := Aside0.mk A140
                      clear A140
                      by_cases c15 : t196 = true
                      · subst c15
                        have H1 : (cringleref02_Next.l0 k1 a0 t195 (wrap64 (x6_1 + 1))) = some (r1, r2, r3) := by rw [if_pos rfl] at H; exact H
                        clear H
                        have H := H1
                        clear H1
                        have H' := Aside0.mk H
                        clear H
                        have p11 : 0 ≤ (0 : Int) := (by omega)
                        have q11 : 0 < a0.size := (by have : (0 : Int) < (a0.size : Int) := of_decide_eq_true (by first | (with_reducible assumption) | assumption); omega)
                        have hx11 : ∀ h : 0 < a0.size, ((a0[0]'h).toNat : Int) = bt a0 0 := bt_at a0 0
                        clear p11
                        have qi11 : (0 < (a0.size : Int)) = True := eq_true (of_decide_eq_true (by first | (with_reducible assumption) | assumption))
                        replace q11 := eq_true q11
                        have p13 : 0 ≤ (x6_1 : Int) := of_decide_eq_true (by first | (with_reducible assumption) | assumption)
                        have q13 : x6_1 < (a0.size : Int) := of_decide_eq_true (by first | (with_reducible assumption) | assumption)
                        have hx13 := bt_at a0 x6_1
                        replace p13 := eq_true p13
                        replace q13 := eq_true q13
                        go_wp2_with (first | (go_at_call 68; (with_reducible refine (cringleref02_good.calls (bt a0 0) x6_1 (bt a0 x6_1) true _ A14.out).mono ?_); rintro e w' ⟨rfl, ⟨nd, rfl⟩⟩; (try first | exact ⟨rfl, _, World.drewN_drewN _ _ _⟩ | exact ⟨rfl, _, Eq.trans (World.drewN_drewN _ _ _) (congrArg (World.drewN _) (Nat.add_assoc _ _ _))⟩)))
                        repeat (go_quiet (first | (go_at_call 68; (with_reducible refine (cringleref02_good.calls (bt a0 0) x6_1 (bt a0 x6_1) true _ A14.out).mono ?_); rintro e w' ⟨rfl, ⟨nd, rfl⟩⟩; (try first | exact ⟨rfl, _, World.drewN_drewN _ _ _⟩ | exact ⟨rfl, _, Eq.trans (World.drewN_drewN _ _ _) (congrArg (World.drewN _) (Nat.add_assoc _ _ _))⟩))); try go_wp2_with (first | (go_at_call 68; (with_reducible refine (cringleref02_good.calls (bt a0 0) x6_1 (bt a0 x6_1) true _ A14.out).mono ?_); rintro e w' ⟨rfl, ⟨nd, rfl⟩⟩; (try first | exact ⟨rfl, _, World.drewN_drewN _ _ _⟩ | exact ⟨rfl, _, Eq.trans (World.drewN_drewN _ _ _) (congrArg (World.drewN _) (Nat.add_assoc _ _ _))⟩))))
                        go_roundg k1
                        case measure => have := HK1.out; omega
                        case rel => exact ⟨(wrap64 (x6_1 + 1)), (by first | rfl | (simp; done) | (simp [*]; done) | (simp; unfold wrap64; omega)), H', ⟨by have := HK1.out; omega⟩, by repeat (first | exact Drawn0.refl _ | apply Drawn0.step)⟩
                      · replace c15 := Bool.eq_false_iff.mpr c15
                        subst c15
                        have H1 : (cringleref02_Next.j1 k1 a0 t195 x6_1) = some (r1, r2, r3) := by rw [if_neg (show ¬ (false = true) by decide)] at H; exact H
                        clear H
                        have H := H1
                        clear H1
                        have H' := Aside0.mk H
                        clear H
                        have p11 : 0 ≤ (0 : Int) := (by omega)
                        have q11 : 0 < a0.size := (by have : (0 : Int) < (a0.size : Int) := of_decide_eq_true (by first | (with_reducible assumption) | assumption); omega)
                        have hx11 : ∀ h : 0 < a0.size, ((a0[0]'h).toNat : Int) = bt a0 0 := bt_at a0 0
                        clear p11
                        have qi11 : (0 < (a0.size : Int)) = True := eq_true (of_decide_eq_true (by first | (with_reducible assumption) | assumption))
                        replace q11 := eq_true q11
                        have p13 : 0 ≤ (x6_1 : Int) := of_decide_eq_true (by first | (with_reducible assumption) | assumption)
                        have q13 : x6_1 < (a0.size : Int) := of_decide_eq_true (by first | (with_reducible assumption) | assumption)
                        have hx13 := bt_at a0 x6_1
                        replace p13 := eq_true p13
                        replace q13 := eq_true q13
                        go_wp2_with (first | (go_at_call 68; (with_reducible refine (cringleref02_good.calls (bt a0 0) x6_1 (bt a0 x6_1) false _ A14.out).mono ?_); rintro e w' ⟨rfl, ⟨nd, rfl⟩⟩; (try first | exact ⟨rfl, _, World.drewN_drewN _ _ _⟩ | exact ⟨rfl, _, Eq.trans (World.drewN_drewN _ _ _) (congrArg (World.drewN _) (Nat.add_assoc _ _ _))⟩)))
                        repeat (go_quiet (first | (go_at_call 68; (with_reducible refine (cringleref02_good.calls (bt a0 0) x6_1 (bt a0 x6_1) false _ A14.out).mono ?_); rintro e w' ⟨rfl, ⟨nd, rfl⟩⟩; (try first | exact ⟨rfl, _, World.drewN_drewN _ _ _⟩ | exact ⟨rfl, _, Eq.trans (World.drewN_drewN _ _ _) (congrArg (World.drewN _) (Nat.add_assoc _ _ _))⟩))); try go_wp2_with (first | (go_at_call 68; (with_reducible refine (cringleref02_good.calls (bt a0 0) x6_1 (bt a0 x6_1) false _ A14.out).mono ?_); rintro e w' ⟨rfl, ⟨nd, rfl⟩⟩; (try first | exact ⟨rfl, _, World.drewN_drewN _ _ _⟩ | exact ⟨rfl, _, Eq.trans (World.drewN_drewN _ _ _) (congrArg (World.drewN _) (Nat.add_assoc _ _ _))⟩))))
                        go_meet
                        case rel => exact ⟨_, (x6_1), (by first | rfl | (simp; done) | (simp [*]; done) | (simp; unfold wrap64; omega)), H', ⟨by have := HK1.out; first | omega | exact Nat.le_refl _⟩, by repeat (first | exact Drawn0.refl _ | apply Drawn0.step)⟩
                    · rw [if_neg c12] at H
                      exact absurd H (by simp)
                  · rw [if_neg c10] at H
                    exact absurd H (by simp)
                · rw [if_neg c9] at H
                  have c9b0 : decide (x6_1 < (a0.size : Int)) = false := decide_eq_false c9
                  clear c9
                  have H' := Aside0.mk H
                  clear H
                  go_wp2
                  repeat (go_quiet (fail); try go_wp2)
                  go_meet
                  case rel => exact ⟨_, (x6_1), (by first | rfl | (simp; done) | (simp [*]; done) | (simp; unfold wrap64; omega)), H', ⟨by have := HK1.out; first | omega | exact Nat.le_refl _⟩, by repeat (first | exact Drawn0.refl _ | apply Drawn0.step)⟩
              · rw [if_neg c8] at H
                have c8b0 : decide (x6_1 < t195) = false := decide_eq_false c8
                clear c8
                (first | rw [c8b0] | (simp only [i64_w, i32_w]; rw [c8b0]) | skip)
                have H' := Aside0.mk H
                clear H
                go_wp2
                repeat (go_quiet (fail); try go_wp2)
                go_meet
                case rel => exact ⟨_, (x6_1), (by first | rfl | (simp; done) | (simp [*]; done) | (simp; unfold wrap64; omega)), H', ⟨by have := HK1.out; first | omega | exact Nat.le_refl _⟩, by repeat (first | exact Drawn0.refl _ | apply Drawn0.step)⟩
        case rest =>
          clear HC7
          try clear c1
          try clear p1
          try clear q1
          try clear hx1
          try clear qi1
          try clear c2
          try clear c2b0
          try clear c2b1
          try clear p2
          try clear c3
          try clear c3b0
          try clear c3b1
          try clear c4
          try clear p4
          try clear q4
          try clear hx4
          try clear qi4
          try clear c6
          try clear c6b0
          try clear c6b1
          try clear p6
          try clear c8
          try clear c8b0
          try clear c9
          try clear c9b0
          try clear c10
          try clear c10b0
          try clear c10b1
          try clear p11
          try clear q11
          try clear hx11
          try clear qi11
          try clear c12
          try clear c12b0
          try clear p13
          try clear q13
          try clear hx13
          try clear c15
          try clear p11
          try clear p13
          try clear p2
          try clear p4
          try clear p6
          try clear q11
          try clear q13
          try clear q4
          obtain ⟨kq, x6_6, rfl, HA, HJ6, ⟨mc6, rfl⟩⟩ := hcut
          cases kq with
          | zero => exact absurd HA.out (by simp [cringleref02_Next.j1])
          | succ kj6 =>
            have H := HA.out
            clear HA
            simp only [cringleref02_Next.j1] at H
            by_cases c16 : x6_6 < t195
            · rw [if_pos c16] at H
              have c16b0 : decide (x6_6 < t195) = true := decide_eq_true c16
              clear c16
              simp only [Option.some.injEq, Prod.mk.injEq] at H
              obtain ⟨rfl, rfl, rfl⟩ := H
              go_wp2
              repeat (go_quiet (fail); try go_wp2)
              go_ret3
              exact ⟨by first | rfl | (simp; done) | (simp [*]; done) | (simp; unfold wrap64; omega), by repeat (first | exact Drawn0.refl _ | apply Drawn0.step)⟩
            · rw [if_neg c16] at H
              have c16b0 : decide (x6_6 < t195) = false := decide_eq_false c16
              clear c16
              by_cases c17 : 0 < (a0.size : Int)
              · rw [if_pos c17] at H
                have c17b0 : decide (0 < (a0.size : Int)) = true := decide_eq_true c17
                have c17b1 : decide (0 < a0.size) = true := decide_eq_true (by omega)
                clear c17
                have HC19 := Aside0.mk H
                clear H
                have p18 : 0 ≤ (0 : Int) := (by omega)
                have q18 : 0 < a0.size := (by have : (0 : Int) < (a0.size : Int) := of_decide_eq_true (by first | (with_reducible assumption) | assumption); omega)
                have hx18 : ∀ h : 0 < a0.size, ((a0[0]'h).toNat : Int) = bt a0 0 := bt_at a0 0
                clear p18
                have qi18 : (0 < (a0.size : Int)) = True := eq_true (of_decide_eq_true (by first | (with_reducible assumption) | assumption))
                replace q18 := eq_true q18
                go_upto_block 2 with (fail)
                repeat (go_quiet (fail); go_upto_block 2 with (fail))
                go_cut [7] (fun v7 wc => ∃ (kq : Nat) (x7_18 : Int), v7 = .int .i32 x7_18 ∧ Aside0 (cringleref02_Next.j2 kq a0 t195 x7_18 = some (r1, r2, r3)) ∧ Aside0 (kq ≤ kj6) ∧ Drawn0 w wc)
                case first =>
                  have H := HC19.out
                  clear HC19
                  by_cases c20 : t195 = 2
                  · rw [if_pos c20] at H
                    have c20b0 : (t195 == 2) = true := beq_iff_eq.mpr c20
                    have c20b1 : (t195 != 2) = false := bne_eq_false_iff_eq.mpr c20
                    clear c20
                    (first | rw [c20b0] | (simp only [i64_w, i32_w]; rw [c20b0]) | skip)
                    have H' := Aside0.mk H
                    clear H
                    go_wp2
                    repeat (go_quiet (fail); try go_wp2)
                    go_meet
                    case rel => exact ⟨_, (wrap32 ((wrap32 (bt a0 0)) - 192)), (by first | rfl | (simp; done) | (simp [*]; done) | (simp; unfold wrap64; omega)), H', ⟨by have := HJ6.out; first | omega | exact Nat.le_refl _⟩, by repeat (first | exact Drawn0.refl _ | apply Drawn0.step)⟩
                  · rw [if_neg c20] at H
                    have c20b0 : (t195 == 2) = false := beq_eq_false_iff_ne.mpr c20
                    have c20b1 : (t195 != 2) = true := bne_iff_ne.mpr c20
                    (first | rw [c20b0] | (simp only [i64_w, i32_w]; rw [c20b0]) | skip)
                    by_cases c21 : t195 = 3
                    · rw [if_pos c21] at H
                      have c21b0 : (t195 == 3) = true := beq_iff_eq.mpr c21
                      have c21b1 : (t195 != 3) = false := bne_eq_false_iff_eq.mpr c21
                      clear c21
                      have H' := Aside0.mk H
                      clear H
                      go_wp2
                      repeat (go_quiet (fail); try go_wp2)
                      go_meet
                      case rel => exact ⟨_, (wrap32 ((wrap32 (bt a0 0)) - 224)), (by first | rfl | (simp; done) | (simp [*]; done) | (simp; unfold wrap64; omega)), H', ⟨by have := HJ6.out; first | omega | exact Nat.le_refl _⟩, by repeat (first | exact Drawn0.refl _ | apply Drawn0.step)⟩
                    · rw [if_neg c21] at H
                      have c21b0 : (t195 == 3) = false := beq_eq_false_iff_ne.mpr c21
                      have c21b1 : (t195 != 3) = true := bne_iff_ne.mpr c21
                      by_cases c22 : t195 = 4
                      · rw [if_pos c22] at H
                        have c22b0 : (t195 == 4) = true := beq_iff_eq.mpr c22
                        have c22b1 : (t195 != 4) = false := bne_eq_false_iff_eq.mpr c22
                        clear c22
                        have H' := Aside0.mk H
                        clear H
                        go_wp2
                        repeat (go_quiet (fail); try go_wp2)
                        go_meet
                        case rel => exact ⟨_, (wrap32 ((wrap32 (bt a0 0)) - 240)), (by first | rfl | (simp; done) | (simp [*]; done) | (simp; unfold wrap64; omega)), H', ⟨by have := HJ6.out; first | omega | exact Nat.le_refl _⟩, by repeat (first | exact Drawn0.refl _ | apply Drawn0.step)⟩
                      · rw [if_neg c22] at H
                        have c22b0 : (t195 == 4) = false := beq_eq_false_iff_ne.mpr c22
                        have c22b1 : (t195 != 4) = true := bne_iff_ne.mpr c22
                        have H' := Aside0.mk H
                        clear H
                        go_wp2
                        repeat (go_quiet (fail); try go_wp2)
                        go_meet
                        case rel => exact ⟨_, (wrap32 (bt a0 0)), (by first | rfl | (simp; done) | (simp [*]; done) | (simp; unfold wrap64; omega)), H', ⟨by have := HJ6.out; first | omega | exact Nat.le_refl _⟩, by repeat (first | exact Drawn0.refl _ | apply Drawn0.step)⟩
                case rest =>
                  clear HC19
                  try clear c1
                  try clear p1
                  try clear q1
                  try clear hx1
                  try clear qi1
                  try clear c2
                  try clear c2b0
                  try clear c2b1
                  try clear p2
                  try clear c3
                  try clear c3b0
                  try clear c3b1
                  try clear p3
                  try clear c4
                  try clear p4
                  try clear q4
                  try clear hx4
                  try clear qi4
                  try clear c6
                  try clear c6b0
                  try clear c6b1
                  try clear p6
                  try clear c8
                  try clear c8b0
                  try clear c9
                  try clear c9b0
                  try clear c10
                  try clear c10b0
                  try clear c10b1
                  try clear p11
                  try clear q11
                  try clear hx11
                  try clear qi11
                  try clear c12
                  try clear c12b0
                  try clear p13
                  try clear q13
                  try clear hx13
                  try clear c15
                  try clear c16
                  try clear c16b0
                  try clear c17
                  try clear c17b0
                  try clear c17b1
                  try clear p18
                  try clear q18
                  try clear hx18
                  try clear qi18
                  try clear c20
                  try clear c20b0
                  try clear c20b1
                  try clear c21
                  try clear c21b0
                  try clear c21b1
                  try clear c22
                  try clear c22b0
                  try clear c22b1
                  try clear p1
                  try clear p11
                  try clear p13
                  try clear p18
                  try clear p2
                  try clear p4
                  try clear p6
                  try clear q1
                  try clear q11
                  try clear q13
                  try clear q18
                  try clear q4
                  obtain ⟨kq, x7_18, rfl, HA, HJ18, ⟨mc18, rfl⟩⟩ := hcut
                  cases kq with
                  | zero => exact absurd HA.out (by simp [cringleref02_Next.j2])
                  | succ kj18 =>
                    have H := HA.out
                    clear HA
                    simp only [cringleref02_Next.j2] at H
                    have H' := Aside0.mk H
                    clear H
                    go_wp2
                    repeat (go_quiet (fail); try go_wp2)
                    go_loopg [7, 8] kj18 (fun kq v7 v8 w' => ∃ (x7_3 : Int) (x8_3 : Int), v7 = .int .i32 x7_3 ∧ v8 = .int .i64 x8_3 ∧ Aside0 (cringleref02_Next.l1 kq a0 t195 x7_3 x8_3 = some (r1, r2, r3)) ∧ Aside0 (kq ≤ kj18) ∧ Drawn0 w w')
                    case atStart => exact ⟨(x7_18), (1), (by first | rfl | (simp; done) | (simp [*]; done) | (simp; unfold wrap64; omega)), (by first | rfl | (simp; done) | (simp [*]; done) | (simp; unfold wrap64; omega)), H', ⟨Nat.le_refl _⟩, by repeat (first | exact Drawn0.refl _ | apply Drawn0.step)⟩
                    case round =>
                      clear H'
                      try clear c1
                      try clear p1
                      try clear q1
                      try clear hx1
                      try clear qi1
                      try clear c2
                      try clear c2b0
                      try clear c2b1
                      try clear p2
                      try clear c3
                      try clear c3b0
                      try clear c3b1
                      try clear p3
                      try clear c4
                      try clear p4
                      try clear q4
                      try clear hx4
                      try clear qi4
                      try clear c6
                      try clear c6b0
                      try clear c6b1
                      try clear p6
                      try clear c8
                      try clear c8b0
                      try clear c9
                      try clear c9b0
                      try clear c10
                      try clear c10b0
                      try clear c10b1
                      try clear p11
                      try clear q11
                      try clear hx11
                      try clear qi11
                      try clear c12
                      try clear c12b0
                      try clear p13
                      try clear q13
                      try clear hx13
                      try clear c15
                      try clear c16
                      try clear c16b0
                      try clear c17
                      try clear c17b0
                      try clear c17b1
                      try clear c18
                      try clear p18
                      try clear q18
                      try clear hx18
                      try clear qi18
                      try clear c20
                      try clear c20b0
                      try clear c20b1
                      try clear c21
                      try clear c21b0
                      try clear c21b1
                      try clear c22
                      try clear c22b0
                      try clear c22b1
                      try clear p1
                      try clear p11
                      try clear p13
                      try clear p18
                      try clear p2
                      try clear p3
                      try clear p4
                      try clear p6
                      try clear q1
                      try clear q11
                      try clear q13
                      try clear q18
                      try clear q4
                      obtain ⟨x7_3, x8_3, rfl, rfl, HA, HK3, ⟨m3, rfl⟩⟩ := hrel
                      cases gk with
                      | zero => exact absurd HA.out (by simp [cringleref02_Next.l1])
                      | succ k3 =>
                        have H := HA.out
                        clear HA
                        simp only [cringleref02_Next.l1] at H
                        by_cases c23 : x8_3 < t195
                        · rw [if_pos c23] at H
                          have c23b0 : decide (x8_3 < t195) = true := decide_eq_true c23
                          clear c23
                          by_cases c24 : 0 ≤ x8_3
                          · rw [if_pos c24] at H
                            have c24b0 : decide (0 ≤ x8_3) = true := decide_eq_true c24
                            clear c24
                            by_cases c25 : x8_3 < (a0.size : Int)
                            · rw [if_pos c25] at H
                              have c25b0 : decide (x8_3 < (a0.size : Int)) = true := decide_eq_true c25
                              clear c25
                              have H' := Aside0.mk H
                              clear H
                              have p26 : 0 ≤ (x8_3 : Int) := of_decide_eq_true (by first | (with_reducible assumption) | assumption)
                              have q26 : x8_3 < (a0.size : Int) := of_decide_eq_true (by first | (with_reducible assumption) | assumption)
                              have hx26 := bt_at a0 x8_3
                              replace p26 := eq_true p26
                              replace q26 := eq_true q26
                              go_wp2
                              repeat (go_quiet (fail); try go_wp2)
                              go_roundg k3
                              case measure => have := HJ6.out; have := HJ18.out; have := HK3.out; omega
                              case rel => exact ⟨(wrap32 ((wrap32 ((wrap32 (x7_3 * 64)) + (wrap32 (bt a0 x8_3)))) - 128)), (wrap64 (x8_3 + 1)), (by first | rfl | (simp; done) | (simp [*]; done) | (simp; unfold wrap64; omega)), (by first | rfl | (simp; done) | (simp [*]; done) | (simp; unfold wrap64; omega)), H', ⟨by have := HJ6.out; have := HJ18.out; have := HK3.out; omega⟩, by repeat (first | exact Drawn0.refl _ | apply Drawn0.step)⟩
                            · rw [if_neg c25] at H
                              exact absurd H (by simp)
                          · rw [if_neg c24] at H
                            exact absurd H (by simp)
                        · rw [if_neg c23] at H
                          have c23b0 : decide (x8_3 < t195) = false := decide_eq_false c23
                          clear c23
                          simp only [Option.some.injEq, Prod.mk.injEq] at H
                          obtain ⟨rfl, rfl, rfl⟩ := H
                          go_wp2
                          repeat (go_quiet (fail); try go_wp2)
                          go_ret3
                          exact ⟨by first | rfl | (simp; done) | (simp [*]; done) | (simp; unfold wrap64; omega), by repeat (first | exact Drawn0.refl _ | apply Drawn0.step)⟩
              · rw [if_neg c17] at H
                exact absurd H (by simp)
    · rw [if_neg c3] at H
      exact absurd H (by simp)

/-! ### cringleref02_Right: function 89 -/
def cringleref02_Right.f (a0 : Int) : Option (Bool) := if a0 ≥ 0 then (if a0 ≤ 1114111 then (if a0 < 55296 then (some true) else (some (decide (a0 > 57343)))) else (some false)) else (some false)
set_option maxHeartbeats 8000000 in
set_option maxRecDepth 100000 in
theorem cringleref02_Right.calls (a0 : Int) (r : Bool) (w : World) (h : cringleref02_Right.f a0 = some r) :
    Calls Tryd.prog 89 #[.int .i32 a0] w fun e w' => e = .returned (.bool r) ∧ Drawn0 w w' := by
  have H : (if a0 ≥ 0 then (if a0 ≤ 1114111 then (if a0 < 55296 then (some true) else (some (decide (a0 > 57343)))) else (some false)) else (some false)) = some r := h
  clear h
  by_cases c2 : a0 ≥ 0
  · rw [if_pos c2] at H
    have c2b0 : decide (0 ≤ a0) = true := decide_eq_true c2
    clear c2
    by_cases c3 : a0 ≤ 1114111
    · rw [if_pos c3] at H
      have c3b0 : decide (a0 ≤ 1114111) = true := decide_eq_true c3
      clear c3
      by_cases c4 : a0 < 55296
      · rw [if_pos c4] at H
        have c4b0 : decide (a0 < 55296) = true := decide_eq_true c4
        clear c4
        obtain rfl := Option.some.inj H
        go_enter Tryd.func89, Tryd.ntmps89
        go_wp2
        go_ret
        exact ⟨by first | rfl | (simp; done) | (simp [*]; done) | (simp; unfold wrap64; omega), by repeat (first | exact Drawn0.refl _ | apply Drawn0.step)⟩
      · rw [if_neg c4] at H
        have c4b0 : decide (a0 < 55296) = false := decide_eq_false c4
        clear c4
        obtain rfl := Option.some.inj H
        go_enter Tryd.func89, Tryd.ntmps89
        go_wp2
        go_ret
        exact ⟨by first | rfl | (simp; done) | (simp [*]; done) | (simp; unfold wrap64; omega), by repeat (first | exact Drawn0.refl _ | apply Drawn0.step)⟩
    · rw [if_neg c3] at H
      have c3b0 : decide (a0 ≤ 1114111) = false := decide_eq_false c3
      clear c3
      obtain rfl := Option.some.inj H
      go_enter Tryd.func89, Tryd.ntmps89
      go_wp2
      go_ret
      exact ⟨by first | rfl | (simp; done) | (simp [*]; done) | (simp; unfold wrap64; omega), by repeat (first | exact Drawn0.refl _ | apply Drawn0.step)⟩
  · rw [if_neg c2] at H
    have c2b0 : decide (0 ≤ a0) = false := decide_eq_false c2
    clear c2
    obtain rfl := Option.some.inj H
    go_enter Tryd.func89, Tryd.ntmps89
    go_wp2
    go_ret
    exact ⟨by first | rfl | (simp; done) | (simp [*]; done) | (simp; unfold wrap64; omega), by repeat (first | exact Drawn0.refl _ | apply Drawn0.step)⟩

/-! ### cringleref02_one: function 79 -/
def cringleref02_one.f : Nat → Int → Option (List Int)
  | 0, _ => none
  | k + 1, a0 => (cringleref02_Right.f a0).bind fun t197 => (if t197 = true then (if a0 < 128 then (some (([(a0) % 256] : List Int))) else (if a0 < 2048 then (some (([(192 + ((wrap32 (Int.tdiv a0 64)) % 256)) % 256, (128 + ((Int.tmod a0 64) % 256)) % 256] : List Int))) else (if a0 < 65536 then (some (([(224 + ((wrap32 (Int.tdiv a0 4096)) % 256)) % 256, (128 + ((Int.tmod (wrap32 (Int.tdiv a0 64)) 64) % 256)) % 256, (128 + ((Int.tmod a0 64) % 256)) % 256] : List Int))) else (some (([(240 + ((wrap32 (Int.tdiv a0 262144)) % 256)) % 256, (128 + ((Int.tmod (wrap32 (Int.tdiv a0 4096)) 64) % 256)) % 256, (128 + ((Int.tmod (wrap32 (Int.tdiv a0 64)) 64) % 256)) % 256, (128 + ((Int.tmod a0 64) % 256)) % 256] : List Int)))))) else ((cringleref02_one.f k 65533).bind fun t210 => (some t210)))
theorem cringleref02_one.mono_l : ∀ k, (∀ y0, LeO (cringleref02_one.f k y0) (cringleref02_one.f (k + 1) y0))
  | 0 => fun _ r h => by simp [cringleref02_one.f] at h
  | k + 1 => by
    have ih0 := cringleref02_one.mono_l k
    · intro y0
      unfold cringleref02_one.f
      repeat' first
      | (with_reducible exact ih0 _)
      | (with_reducible exact LeO.refl _)
      | (with_reducible exact LeO.none _)
      | (with_reducible refine LeO.ite ?_ ?_)
      | (with_reducible refine LeO.bind ?_ (fun _ => ?_))
      | exact ih0 _
      | exact LeO.none _
      | refine LeO.ite ?_ ?_
      | refine LeO.bind ?_ (fun _ => ?_)
theorem cringleref02_one.mono : ∀ a0 k, LeO (cringleref02_one.f k a0) (cringleref02_one.f (k + 1) a0) := by
  intro a0 k
  have ih0 := cringleref02_one.mono_l k
  exact ih0 a0
set_option maxHeartbeats 8000000 in
set_option maxRecDepth 100000 in
theorem cringleref02_one.calls (k : Nat) : ∀ (a0 : Int) (r : List Int) (w : World) (h : cringleref02_one.f k a0 = some r),
    Calls Tryd.prog 79 #[.int .i32 a0] w fun e w' => ∃ v0_ : Value, e = .returned (v0_) ∧ Kd.R (Kd.int .u8) 5 w' w.heap.size (fun _ => True) v0_ r ∧ Below w.heap.size w w' := by
  induction k using Nat.strongRecOn with
  | _ k ih =>
  intro a0 r w h
  cases k with
  | zero => exact absurd h (by simp [cringleref02_one.f])
  | succ k =>
  simp only [cringleref02_one.f] at h
  have HB := Aside0.mk (Below.refl w.heap.size w)
  have H : ((cringleref02_Right.f a0).bind fun t197 => (if t197 = true then (if a0 < 128 then (some (([(a0) % 256] : List Int))) else (if a0 < 2048 then (some (([(192 + ((wrap32 (Int.tdiv a0 64)) % 256)) % 256, (128 + ((Int.tmod a0 64) % 256)) % 256] : List Int))) else (if a0 < 65536 then (some (([(224 + ((wrap32 (Int.tdiv a0 4096)) % 256)) % 256, (128 + ((Int.tmod (wrap32 (Int.tdiv a0 64)) 64) % 256)) % 256, (128 + ((Int.tmod a0 64) % 256)) % 256] : List Int))) else (some (([(240 + ((wrap32 (Int.tdiv a0 262144)) % 256)) % 256, (128 + ((Int.tmod (wrap32 (Int.tdiv a0 4096)) 64) % 256)) % 256, (128 + ((Int.tmod (wrap32 (Int.tdiv a0 64)) 64) % 256)) % 256, (128 + ((Int.tmod a0 64) % 256)) % 256] : List Int)))))) else ((cringleref02_one.f k 65533).bind fun t210 => (some t210)))) = some r := h
  clear h
  replace H := Option.bind_eq_some_iff.mp H
  obtain ⟨t197, A20, H⟩ := H
  replace H : (if t197 = true then (if a0 < 128 then (some (([(a0) % 256] : List Int))) else (if a0 < 2048 then (some (([(192 + ((wrap32 (Int.tdiv a0 64)) % 256)) % 256, (128 + ((Int.tmod a0 64) % 256)) % 256] : List Int))) else (if a0 < 65536 then (some (([(224 + ((wrap32 (Int.tdiv a0 4096)) % 256)) % 256, (128 + ((Int.tmod (wrap32 (Int.tdiv a0 64)) 64) % 256)) % 256, (128 + ((Int.tmod a0 64) % 256)) % 256] : List Int))) else (some (([(240 + ((wrap32 (Int.tdiv a0 262144)) % 256)) % 256, (128 + ((Int.tmod (wrap32 (Int.tdiv a0 4096)) 64) % 256)) % 256, (128 + ((Int.tmod (wrap32 (Int.tdiv a0 64)) 64) % 256)) % 256, (128 + ((Int.tmod a0 64) % 256)) % 256] : List Int)))))) else ((cringleref02_one.f k 65533).bind fun t210 => (some t210))) = some r := H
  have A2 := Aside0.mk A20
  clear A20
  by_cases c3 : t197 = true
  · subst c3
    have H1 : (if a0 < 128 then (some (([(a0) % 256] : List Int))) else (if a0 < 2048 then (some (([(192 + ((wrap32 (Int.tdiv a0 64)) % 256)) % 256, (128 + ((Int.tmod a0 64) % 256)) % 256] : List Int))) else (if a0 < 65536 then (some (([(224 + ((wrap32 (Int.tdiv a0 4096)) % 256)) % 256, (128 + ((Int.tmod (wrap32 (Int.tdiv a0 64)) 64) % 256)) % 256, (128 + ((Int.tmod a0 64) % 256)) % 256] : List Int))) else (some (([(240 + ((wrap32 (Int.tdiv a0 262144)) % 256)) % 256, (128 + ((Int.tmod (wrap32 (Int.tdiv a0 4096)) 64) % 256)) % 256, (128 + ((Int.tmod (wrap32 (Int.tdiv a0 64)) 64) % 256)) % 256, (128 + ((Int.tmod a0 64) % 256)) % 256] : List Int)))))) = some r := by rw [if_pos rfl] at H; exact H
    clear H
    have H := H1
    clear H1
    by_cases c4 : a0 < 128
    · rw [if_pos c4] at H
      have c4b0 : decide (a0 < 128) = true := decide_eq_true c4
      clear c4
      obtain ⟨y198, hy198⟩ : ∃ y_ : List Int, y_ = (([(a0) % 256] : List Int)) := ⟨_, rfl⟩
      replace H : (some y198) = some r := by first | (rw [hy198]; with_reducible exact H) | (have H2_ := (Option.bind_some _ _).symm.trans H; rw [hy198]; with_reducible exact H2_) | (have H2_ := (Option.bind_some _ _).symm.trans H; with_reducible exact H2_) | with_reducible exact H | (rw [hy198]; exact H) | exact H
      have Ny198 := Aside0.mk hy198
      clear hy198
      obtain rfl := Option.some.inj H
      go_enter Tryd.func79, Tryd.ntmps79
      go_wp2_with (first | ((with_reducible refine gate_callee (f := 89) rfl ?_); refine goesL_ (some 5) rfl rfl Tryd.func89 (by kernel_rfl) rfl #[.int .i32 a0] rfl (by (try simp only [List.map_toArray, List.map_cons, List.map_nil]); first | done | rfl | (simp only [List.length_drop, List.length_take]; rfl)) ?_; (with_reducible refine (cringleref02_Right.calls a0 true _ A2.out).mono ?_); rintro e w' ⟨rfl, ⟨nd, rfl⟩⟩; refine ⟨_, rfl, ?_⟩) | ((with_reducible refine gate_dst (N := 13) rfl ?_); refine Kd.R_lit (Kd.int .u8) _ 5 ?hg (N := 13) ?hd (xs := ([(a0) % 256] : List Int)) (inner := [.int .u8 ((a0) % 256)]) (ok := fun _ => True) (okp := fun _ => True) ?hr ?hp (fun _ hk => hk) trivial (Below.refl _ _) (Nat.le_refl _) (by simp) ?_; (case hd => rfl); (case hg => rfl); (case hr => first | (go_simp; done) | (go_simp; rfl)); (case hp => exact (Reps.one (show Kd.M (Kd.int .u8) _ _ _ ((a0) % 256) [.int .u8 ((a0) % 256)] from rfl) (Reps.none _ _))); intro v199 w5 ho6 hb hg_ hnew_; clear hg_ hnew_; (first | rw [← Ny198.out] at ho6 | (simp only [Int.reduceToNat] at ho6; rw [← Ny198.out] at ho6)); have n0_ := Aside0.mk (Kd.R_lower ho6 (below_size (by repeat (first | (with_reducible first | exact HB.out | apply below_alloc | apply pw_below_drewN | apply below_drew1) | exact HB.out)))); have n1_ := Aside0.mk (below_step (by repeat (first | (with_reducible first | exact HB.out | apply below_alloc | apply pw_below_drewN | apply below_drew1) | exact HB.out)) hb); clear HB; have HO200 := n0_; have HB := n1_; clear n0_ n1_; clear hb ho6))
      go_ret
      exact ⟨_, by first | rfl | (simp [errW_none, errW_some] <;> rfl) | (simp [*, errW_none, errW_some] <;> rfl), by (with_reducible repeat (first | apply Kd.R_alloc | apply Kd.R_drewN | apply Kd.R_drew)); exact HO200.out, by repeat (first | (with_reducible first | exact HB.out | apply below_alloc | apply pw_below_drewN | apply below_drew1) | exact HB.out)⟩
    · rw [if_neg c4] at H
      have c4b0 : decide (a0 < 128) = false := decide_eq_false c4
      clear c4
      by_cases c7 : a0 < 2048
      · rw [if_pos c7] at H
        have c7b0 : decide (a0 < 2048) = true := decide_eq_true c7
        clear c7
        obtain ⟨y201, hy201⟩ : ∃ y_ : List Int, y_ = (([(192 + ((wrap32 (Int.tdiv a0 64)) % 256)) % 256, (128 + ((Int.tmod a0 64) % 256)) % 256] : List Int)) := ⟨_, rfl⟩
        replace H : (some y201) = some r := by first | (rw [hy201]; with_reducible exact H) | (have H2_ := (Option.bind_some _ _).symm.trans H; rw [hy201]; with_reducible exact H2_) | (have H2_ := (Option.bind_some _ _).symm.trans H; with_reducible exact H2_) | with_reducible exact H | (rw [hy201]; exact H) | exact H
        have Ny201 := Aside0.mk hy201
        clear hy201
        obtain rfl := Option.some.inj H
        go_enter Tryd.func79, Tryd.ntmps79
        go_wp2_with (first | ((with_reducible refine gate_callee (f := 89) rfl ?_); refine goesL_ (some 5) rfl rfl Tryd.func89 (by kernel_rfl) rfl #[.int .i32 a0] rfl (by (try simp only [List.map_toArray, List.map_cons, List.map_nil]); first | done | rfl | (simp only [List.length_drop, List.length_take]; rfl)) ?_; (with_reducible refine (cringleref02_Right.calls a0 true _ A2.out).mono ?_); rintro e w' ⟨rfl, ⟨nd, rfl⟩⟩; refine ⟨_, rfl, ?_⟩) | ((with_reducible refine gate_dst (N := 25) rfl ?_); refine Kd.R_lit (Kd.int .u8) _ 5 ?hg (N := 25) ?hd (xs := ([(192 + ((wrap32 (Int.tdiv a0 64)) % 256)) % 256, (128 + ((Int.tmod a0 64) % 256)) % 256] : List Int)) (inner := [.int .u8 ((192 + ((wrap32 (Int.tdiv a0 64)) % 256)) % 256), .int .u8 ((128 + ((Int.tmod a0 64) % 256)) % 256)]) (ok := fun _ => True) (okp := fun _ => True) ?hr ?hp (fun _ hk => hk) trivial (Below.refl _ _) (Nat.le_refl _) (by simp) ?_; (case hd => rfl); (case hg => rfl); (case hr => first | (go_simp; done) | (go_simp; rfl)); (case hp => exact (Reps.one (show Kd.M (Kd.int .u8) _ _ _ ((192 + ((wrap32 (Int.tdiv a0 64)) % 256)) % 256) [.int .u8 ((192 + ((wrap32 (Int.tdiv a0 64)) % 256)) % 256)] from rfl) (Reps.one (show Kd.M (Kd.int .u8) _ _ _ ((128 + ((Int.tmod a0 64) % 256)) % 256) [.int .u8 ((128 + ((Int.tmod a0 64) % 256)) % 256)] from rfl) (Reps.none _ _)))); intro v202 w8 ho9 hb hg_ hnew_; clear hg_ hnew_; (first | rw [← Ny201.out] at ho9 | (simp only [Int.reduceToNat] at ho9; rw [← Ny201.out] at ho9)); have n0_ := Aside0.mk (Kd.R_lower ho9 (below_size (by repeat (first | (with_reducible first | exact HB.out | apply below_alloc | apply pw_below_drewN | apply below_drew1) | exact HB.out)))); have n1_ := Aside0.mk (below_step (by repeat (first | (with_reducible first | exact HB.out | apply below_alloc | apply pw_below_drewN | apply below_drew1) | exact HB.out)) hb); clear HB; have HO203 := n0_; have HB := n1_; clear n0_ n1_; clear hb ho9))
        go_ret
        exact ⟨_, by first | rfl | (simp [errW_none, errW_some] <;> rfl) | (simp [*, errW_none, errW_some] <;> rfl), by (with_reducible repeat (first | apply Kd.R_alloc | apply Kd.R_drewN | apply Kd.R_drew)); exact HO203.out, by repeat (first | (with_reducible first | exact HB.out | apply below_alloc | apply pw_below_drewN | apply below_drew1) | exact HB.out)⟩
      · rw [if_neg c7] at H
        have c7b0 : decide (a0 < 2048) = false := decide_eq_false c7
        clear c7
        by_cases c10 : a0 < 65536
        · rw [if_pos c10] at H
          have c10b0 : decide (a0 < 65536) = true := decide_eq_true c10
          clear c10
          obtain ⟨y204, hy204⟩ : ∃ y_ : List Int, y_ = (([(224 + ((wrap32 (Int.tdiv a0 4096)) % 256)) % 256, (128 + ((Int.tmod (wrap32 (Int.tdiv a0 64)) 64) % 256)) % 256, (128 + ((Int.tmod a0 64) % 256)) % 256] : List Int)) := ⟨_, rfl⟩
          replace H : (some y204) = some r := by first | (rw [hy204]; with_reducible exact H) | (have H2_ := (Option.bind_some _ _).symm.trans H; rw [hy204]; with_reducible exact H2_) | (have H2_ := (Option.bind_some _ _).symm.trans H; with_reducible exact H2_) | with_reducible exact H | (rw [hy204]; exact H) | exact H
          have Ny204 := Aside0.mk hy204
          clear hy204
          obtain rfl := Option.some.inj H
          go_enter Tryd.func79, Tryd.ntmps79
          go_wp2_with (first | ((with_reducible refine gate_callee (f := 89) rfl ?_); refine goesL_ (some 5) rfl rfl Tryd.func89 (by kernel_rfl) rfl #[.int .i32 a0] rfl (by (try simp only [List.map_toArray, List.map_cons, List.map_nil]); first | done | rfl | (simp only [List.length_drop, List.length_take]; rfl)) ?_; (with_reducible refine (cringleref02_Right.calls a0 true _ A2.out).mono ?_); rintro e w' ⟨rfl, ⟨nd, rfl⟩⟩; refine ⟨_, rfl, ?_⟩) | ((with_reducible refine gate_dst (N := 42) rfl ?_); refine Kd.R_lit (Kd.int .u8) _ 5 ?hg (N := 42) ?hd (xs := ([(224 + ((wrap32 (Int.tdiv a0 4096)) % 256)) % 256, (128 + ((Int.tmod (wrap32 (Int.tdiv a0 64)) 64) % 256)) % 256, (128 + ((Int.tmod a0 64) % 256)) % 256] : List Int)) (inner := [.int .u8 ((224 + ((wrap32 (Int.tdiv a0 4096)) % 256)) % 256), .int .u8 ((128 + ((Int.tmod (wrap32 (Int.tdiv a0 64)) 64) % 256)) % 256), .int .u8 ((128 + ((Int.tmod a0 64) % 256)) % 256)]) (ok := fun _ => True) (okp := fun _ => True) ?hr ?hp (fun _ hk => hk) trivial (Below.refl _ _) (Nat.le_refl _) (by simp) ?_; (case hd => rfl); (case hg => rfl); (case hr => first | (go_simp; done) | (go_simp; rfl)); (case hp => exact (Reps.one (show Kd.M (Kd.int .u8) _ _ _ ((224 + ((wrap32 (Int.tdiv a0 4096)) % 256)) % 256) [.int .u8 ((224 + ((wrap32 (Int.tdiv a0 4096)) % 256)) % 256)] from rfl) (Reps.one (show Kd.M (Kd.int .u8) _ _ _ ((128 + ((Int.tmod (wrap32 (Int.tdiv a0 64)) 64) % 256)) % 256) [.int .u8 ((128 + ((Int.tmod (wrap32 (Int.tdiv a0 64)) 64) % 256)) % 256)] from rfl) (Reps.one (show Kd.M (Kd.int .u8) _ _ _ ((128 + ((Int.tmod a0 64) % 256)) % 256) [.int .u8 ((128 + ((Int.tmod a0 64) % 256)) % 256)] from rfl) (Reps.none _ _))))); intro v205 w11 ho12 hb hg_ hnew_; clear hg_ hnew_; (first | rw [← Ny204.out] at ho12 | (simp only [Int.reduceToNat] at ho12; rw [← Ny204.out] at ho12)); have n0_ := Aside0.mk (Kd.R_lower ho12 (below_size (by repeat (first | (with_reducible first | exact HB.out | apply below_alloc | apply pw_below_drewN | apply below_drew1) | exact HB.out)))); have n1_ := Aside0.mk (below_step (by repeat (first | (with_reducible first | exact HB.out | apply below_alloc | apply pw_below_drewN | apply below_drew1) | exact HB.out)) hb); clear HB; have HO206 := n0_; have HB := n1_; clear n0_ n1_; clear hb ho12))
          go_ret
          exact ⟨_, by first | rfl | (simp [errW_none, errW_some] <;> rfl) | (simp [*, errW_none, errW_some] <;> rfl), by (with_reducible repeat (first | apply Kd.R_alloc | apply Kd.R_drewN | apply Kd.R_drew)); exact HO206.out, by repeat (first | (with_reducible first | exact HB.out | apply below_alloc | apply pw_below_drewN | apply below_drew1) | exact HB.out)⟩
        · rw [if_neg c10] at H
          have c10b0 : decide (a0 < 65536) = false := decide_eq_false c10
          clear c10
          obtain ⟨y207, hy207⟩ : ∃ y_ : List Int, y_ = (([(240 + ((wrap32 (Int.tdiv a0 262144)) % 256)) % 256, (128 + ((Int.tmod (wrap32 (Int.tdiv a0 4096)) 64) % 256)) % 256, (128 + ((Int.tmod (wrap32 (Int.tdiv a0 64)) 64) % 256)) % 256, (128 + ((Int.tmod a0 64) % 256)) % 256] : List Int)) := ⟨_, rfl⟩
          replace H : (some y207) = some r := by first | (rw [hy207]; with_reducible exact H) | (have H2_ := (Option.bind_some _ _).symm.trans H; rw [hy207]; with_reducible exact H2_) | (have H2_ := (Option.bind_some _ _).symm.trans H; with_reducible exact H2_) | with_reducible exact H | (rw [hy207]; exact H) | exact H
          have Ny207 := Aside0.mk hy207
          clear hy207
          obtain rfl := Option.some.inj H
          go_enter Tryd.func79, Tryd.ntmps79
          go_wp2_with (first | ((with_reducible refine gate_callee (f := 89) rfl ?_); refine goesL_ (some 5) rfl rfl Tryd.func89 (by kernel_rfl) rfl #[.int .i32 a0] rfl (by (try simp only [List.map_toArray, List.map_cons, List.map_nil]); first | done | rfl | (simp only [List.length_drop, List.length_take]; rfl)) ?_; (with_reducible refine (cringleref02_Right.calls a0 true _ A2.out).mono ?_); rintro e w' ⟨rfl, ⟨nd, rfl⟩⟩; refine ⟨_, rfl, ?_⟩) | ((with_reducible refine gate_dst (N := 61) rfl ?_); refine Kd.R_lit (Kd.int .u8) _ 5 ?hg (N := 61) ?hd (xs := ([(240 + ((wrap32 (Int.tdiv a0 262144)) % 256)) % 256, (128 + ((Int.tmod (wrap32 (Int.tdiv a0 4096)) 64) % 256)) % 256, (128 + ((Int.tmod (wrap32 (Int.tdiv a0 64)) 64) % 256)) % 256, (128 + ((Int.tmod a0 64) % 256)) % 256] : List Int)) (inner := [.int .u8 ((240 + ((wrap32 (Int.tdiv a0 262144)) % 256)) % 256), .int .u8 ((128 + ((Int.tmod (wrap32 (Int.tdiv a0 4096)) 64) % 256)) % 256), .int .u8 ((128 + ((Int.tmod (wrap32 (Int.tdiv a0 64)) 64) % 256)) % 256), .int .u8 ((128 + ((Int.tmod a0 64) % 256)) % 256)]) (ok := fun _ => True) (okp := fun _ => True) ?hr ?hp (fun _ hk => hk) trivial (Below.refl _ _) (Nat.le_refl _) (by simp) ?_; (case hd => rfl); (case hg => rfl); (case hr => first | (go_simp; done) | (go_simp; rfl)); (case hp => exact (Reps.one (show Kd.M (Kd.int .u8) _ _ _ ((240 + ((wrap32 (Int.tdiv a0 262144)) % 256)) % 256) [.int .u8 ((240 + ((wrap32 (Int.tdiv a0 262144)) % 256)) % 256)] from rfl) (Reps.one (show Kd.M (Kd.int .u8) _ _ _ ((128 + ((Int.tmod (wrap32 (Int.tdiv a0 4096)) 64) % 256)) % 256) [.int .u8 ((128 + ((Int.tmod (wrap32 (Int.tdiv a0 4096)) 64) % 256)) % 256)] from rfl) (Reps.one (show Kd.M (Kd.int .u8) _ _ _ ((128 + ((Int.tmod (wrap32 (Int.tdiv a0 64)) 64) % 256)) % 256) [.int .u8 ((128 + ((Int.tmod (wrap32 (Int.tdiv a0 64)) 64) % 256)) % 256)] from rfl) (Reps.one (show Kd.M (Kd.int .u8) _ _ _ ((128 + ((Int.tmod a0 64) % 256)) % 256) [.int .u8 ((128 + ((Int.tmod a0 64) % 256)) % 256)] from rfl) (Reps.none _ _)))))); intro v208 w13 ho14 hb hg_ hnew_; clear hg_ hnew_; (first | rw [← Ny207.out] at ho14 | (simp only [Int.reduceToNat] at ho14; rw [← Ny207.out] at ho14)); have n0_ := Aside0.mk (Kd.R_lower ho14 (below_size (by repeat (first | (with_reducible first | exact HB.out | apply below_alloc | apply pw_below_drewN | apply below_drew1) | exact HB.out)))); have n1_ := Aside0.mk (below_step (by repeat (first | (with_reducible first | exact HB.out | apply below_alloc | apply pw_below_drewN | apply below_drew1) | exact HB.out)) hb); clear HB; have HO209 := n0_; have HB := n1_; clear n0_ n1_; clear hb ho14))
          go_ret
          exact ⟨_, by first | rfl | (simp [errW_none, errW_some] <;> rfl) | (simp [*, errW_none, errW_some] <;> rfl), by (with_reducible repeat (first | apply Kd.R_alloc | apply Kd.R_drewN | apply Kd.R_drew)); exact HO209.out, by repeat (first | (with_reducible first | exact HB.out | apply below_alloc | apply pw_below_drewN | apply below_drew1) | exact HB.out)⟩
  · replace c3 := Bool.eq_false_iff.mpr c3
    subst c3
    have H1 : ((cringleref02_one.f k 65533).bind fun t210 => (some t210)) = some r := by rw [if_neg (show ¬ (false = true) by decide)] at H; exact H
    clear H
    have H := H1
    clear H1
    replace H := Option.bind_eq_some_iff.mp H
    obtain ⟨t210, A150, H⟩ := H
    replace H : (some t210) = some r := H
    have A15 := Aside0.mk A150
    clear A150
    obtain rfl := Option.some.inj H
    go_enter Tryd.func79, Tryd.ntmps79
    go_wp2_with (first | ((with_reducible refine gate_callee (f := 89) rfl ?_); refine goesL_ (some 5) rfl rfl Tryd.func89 (by kernel_rfl) rfl #[.int .i32 a0] rfl (by (try simp only [List.map_toArray, List.map_cons, List.map_nil]); first | done | rfl | (simp only [List.length_drop, List.length_take]; rfl)) ?_; (with_reducible refine (cringleref02_Right.calls a0 false _ A2.out).mono ?_); rintro e w' ⟨rfl, ⟨nd, rfl⟩⟩; refine ⟨_, rfl, ?_⟩) | ((with_reducible refine gate_callee (f := 79) rfl ?_); refine goesL_ (some 7) rfl rfl Tryd.func79 (by kernel_rfl) rfl #[.int .i32 65533] rfl (by (try simp only [List.map_toArray, List.map_cons, List.map_nil]); first | done | rfl | (simp only [List.length_drop, List.length_take]; rfl)) ?_; (with_reducible refine (ih k (by omega) 65533 t210 _ A15.out).mono ?_); rintro e w16 ⟨v211, rfl, ho0, hb⟩; refine ⟨_, rfl, ?_⟩; have n0_ := Aside0.mk (Kd.R_lower ho0 (below_size (by repeat (first | (with_reducible first | exact HB.out | apply below_alloc | apply pw_below_drewN | apply below_drew1) | exact HB.out)))); have n1_ := Aside0.mk (below_step (by repeat (first | (with_reducible first | exact HB.out | apply below_alloc | apply pw_below_drewN | apply below_drew1) | exact HB.out)) hb); clear HB; have HO212 := n0_; have HB := n1_; clear n0_ n1_; (try clear hb); (try clear hb2); (try clear hk); (try clear hi); (try clear ho0)))
    go_ret
    exact ⟨_, by first | rfl | (simp [errW_none, errW_some] <;> rfl) | (simp [*, errW_none, errW_some] <;> rfl), by (with_reducible repeat (first | apply Kd.R_alloc | apply Kd.R_drewN | apply Kd.R_drew)); exact HO212.out, by repeat (first | (with_reducible first | exact HB.out | apply below_alloc | apply pw_below_drewN | apply below_drew1) | exact HB.out)⟩

/-! ### cringleref02_Repair: function 63 -/
def cringleref02_Repair.l0 : Nat → ByteArray → List Int → Option (ByteArray)
  | 0, _, _ => none
  | k + 1, x0, x3 => if (x0.size : Int) > 0 then ((cringleref02_Next.f k x0).bind fun bt213 => ((cringleref02_one.f k bt213.1).bind fun t216 => (if x3.length + t216.length < 140737488355328 then (if 0 ≤ bt213.2.1 then (if bt213.2.1 ≤ (x0.size : Int) then (cringleref02_Repair.l0 k (x0.extract (bt213.2.1 : Int).toNat x0.size) (x3 ++ t216)) else (none)) else (none)) else (none)))) else (some (strOfNums x3))
def cringleref02_Repair.f (k : Nat) (a0 : ByteArray) : Option (ByteArray) := cringleref02_Repair.l0 k a0 ([] : List Int)
theorem cringleref02_Repair.mono_l : ∀ k, (∀ y0 y1, LeO (cringleref02_Repair.l0 k y0 y1) (cringleref02_Repair.l0 (k + 1) y0 y1))
  | 0 => fun _ _ r h => by simp [cringleref02_Repair.l0] at h
  | k + 1 => by
    have ih0 := cringleref02_Repair.mono_l k
    · intro y0 y1
      unfold cringleref02_Repair.l0
      repeat' first
      | (with_reducible exact ih0 _ _)
      | (with_reducible exact cringleref02_Next.mono _ _)
      | (with_reducible exact cringleref02_one.mono _ _)
      | (with_reducible exact LeO.refl _)
      | (with_reducible exact LeO.none _)
      | (with_reducible refine LeO.ite ?_ ?_)
      | (with_reducible refine LeO.bind ?_ (fun _ => ?_))
      | exact ih0 _ _
      | exact cringleref02_Next.mono _ _
      | exact cringleref02_one.mono _ _
      | exact LeO.none _
      | refine LeO.ite ?_ ?_
      | refine LeO.bind ?_ (fun _ => ?_)
theorem cringleref02_Repair.mono : ∀ a0 k, LeO (cringleref02_Repair.f k a0) (cringleref02_Repair.f (k + 1) a0) := by
  intro a0 k
  have ih0 := cringleref02_Repair.mono_l k
  unfold cringleref02_Repair.f
  repeat' first
      | (with_reducible exact ih0 _ _)
      | (with_reducible exact cringleref02_Next.mono _ _)
      | (with_reducible exact cringleref02_one.mono _ _)
      | (with_reducible exact LeO.refl _)
      | (with_reducible exact LeO.none _)
      | (with_reducible refine LeO.ite ?_ ?_)
      | (with_reducible refine LeO.bind ?_ (fun _ => ?_))
      | exact ih0 _ _
      | exact cringleref02_Next.mono _ _
      | exact cringleref02_one.mono _ _
      | exact LeO.none _
      | refine LeO.ite ?_ ?_
      | refine LeO.bind ?_ (fun _ => ?_)
set_option maxHeartbeats 8000000 in
set_option maxRecDepth 100000 in
theorem cringleref02_Repair.calls (k : Nat) (a0 : ByteArray) (r : ByteArray) (w : World) (h : cringleref02_Repair.f k a0 = some r) :
    Calls Tryd.prog 63 #[.string a0] w fun e w' => e = .returned (.string r) ∧ Below w.heap.size w w' := by
  have HB := Aside0.mk (Below.refl w.heap.size w)
  have H : (cringleref02_Repair.l0 k a0 ([] : List Int)) = some r := h
  clear h
  have H' := Aside0.mk H
  clear H
  go_enter Tryd.func63, Tryd.ntmps63
  go_wp2
  go_loopg [0, 3] k (fun kq v0 v3 w' => ∃ (x0_1 : ByteArray) (x3_1 : List Int), v0 = .string x0_1 ∧ Aside0 (cringleref02_Repair.l0 kq x0_1 x3_1 = some r) ∧ Aside0 (kq ≤ k) ∧ Aside0 (Kd.R (Kd.int .u8) 5 w' w.heap.size (fun _ => True) v3 x3_1) ∧ Aside0 (Below w.heap.size w w'))
  case atStart => exact ⟨(a0), (([] : List Int)), (by first | rfl | (simp; done) | (simp [*]; done) | (simp; unfold wrap64; omega)), H', ⟨Nat.le_refl _⟩, ⟨by first | exact Kd.R_nil _ _ _ _ _ | exact Kd.N_nil _ _ _ _ _ | exact Kd.V_nil _ _ _ _ _ | exact Kd.Q_nil _ _ _ _ _ | exact Kd.S_nil _ _ _ _ _⟩, ⟨by repeat (first | (with_reducible first | exact HB.out | apply below_alloc | apply pw_below_drewN | apply below_drew1) | exact HB.out)⟩⟩
  case round =>
    clear H'
    obtain ⟨x0_1, x3_1, rfl, HA, HK1, HO_3, HB⟩ := hrel
    cases gk with
    | zero => exact absurd HA.out (by simp [cringleref02_Repair.l0])
    | succ k1 =>
      have H := HA.out
      clear HA
      simp only [cringleref02_Repair.l0] at H
      by_cases c2 : (x0_1.size : Int) > 0
      · rw [if_pos c2] at H
        have c2b0 : decide (0 < (x0_1.size : Int)) = true := decide_eq_true c2
        have c2b1 : decide (0 < x0_1.size) = true := decide_eq_true (by omega)
        clear c2
        replace H := Option.bind_eq_some_iff.mp H
        obtain ⟨⟨t213, t214, t215⟩, A30, H⟩ := H
        replace H : ((cringleref02_one.f k1 t213).bind fun t216 => (if x3_1.length + t216.length < 140737488355328 then (if 0 ≤ t214 then (if t214 ≤ (x0_1.size : Int) then (cringleref02_Repair.l0 k1 (x0_1.extract (t214 : Int).toNat x0_1.size) (x3_1 ++ t216)) else (none)) else (none)) else (none))) = some r := H
        have A3 := Aside0.mk A30
        clear A30
        replace H := Option.bind_eq_some_iff.mp H
        obtain ⟨t216, A40, H⟩ := H
        replace H : (if x3_1.length + t216.length < 140737488355328 then (if 0 ≤ t214 then (if t214 ≤ (x0_1.size : Int) then (cringleref02_Repair.l0 k1 (x0_1.extract (t214 : Int).toNat x0_1.size) (x3_1 ++ t216)) else (none)) else (none)) else (none)) = some r := H
        have A4 := Aside0.mk A40
        clear A40
        by_cases c5 : x3_1.length + t216.length < 140737488355328
        · rw [if_pos c5] at H
          have LMc5 := Aside0.mk c5
          clear c5
          obtain ⟨y219, hy219⟩ : ∃ y_ : List Int, y_ = (x3_1 ++ t216) := ⟨_, rfl⟩
          replace H : (if 0 ≤ t214 then (if t214 ≤ (x0_1.size : Int) then (cringleref02_Repair.l0 k1 (x0_1.extract (t214 : Int).toNat x0_1.size) y219) else (none)) else (none)) = some r := by first | (rw [hy219]; with_reducible exact H) | (have H2_ := (Option.bind_some _ _).symm.trans H; rw [hy219]; with_reducible exact H2_) | (have H2_ := (Option.bind_some _ _).symm.trans H; with_reducible exact H2_) | with_reducible exact H | (rw [hy219]; exact H) | exact H
          have Ny219 := Aside0.mk hy219
          clear hy219
          by_cases c6 : 0 ≤ t214
          · rw [if_pos c6] at H
            have c6b0 := eq_true c6
            have c6b1 : decide (0 ≤ t214) = true := decide_eq_true c6
            clear c6
            by_cases c7 : t214 ≤ (x0_1.size : Int)
            · rw [if_pos c7] at H
              have c7b0 := eq_true c7
              have c7b1 : decide (t214 ≤ (x0_1.size : Int)) = true := decide_eq_true c7
              clear c7
              have H' := Aside0.mk H
              clear H
              go_wp2_with (first | ((with_reducible refine gate_callee (f := 46) rfl ?_); refine goesL_ (some 12) rfl rfl Tryd.func46 (by kernel_rfl) rfl #[.string x0_1] rfl (by (try simp only [List.map_toArray, List.map_cons, List.map_nil]); first | done | rfl | (simp only [List.length_drop, List.length_take]; rfl)) ?_; (with_reducible refine (cringleref02_Next.calls k1 x0_1 t213 t214 t215 _ A3.out).mono ?_); rintro e w' ⟨rfl, ⟨nd, rfl⟩⟩; refine ⟨_, rfl, ?_⟩) | ((with_reducible refine gate_callee (f := 79) rfl ?_); refine goesL_ (some 18) rfl rfl Tryd.func79 (by kernel_rfl) rfl #[.int .i32 t213] rfl (by (try simp only [List.map_toArray, List.map_cons, List.map_nil]); first | done | rfl | (simp only [List.length_drop, List.length_take]; rfl)) ?_; (with_reducible refine (cringleref02_one.calls k1 t213 t216 _ A4.out).mono ?_); rintro e w8 ⟨v217, rfl, ho0, hb⟩; refine ⟨_, rfl, ?_⟩; have n0_ := Aside0.mk (Kd.R_elder' (by (with_reducible repeat (first | apply Kd.R_alloc | apply Kd.R_drewN | apply Kd.R_drew)); exact HO_3.out) (Kd.R_base ho0) hb); have n1_ := Aside0.mk (Kd.R_lower (Kd.R_new' ho0 (Kd.R_lt (by (with_reducible repeat (first | apply Kd.R_alloc | apply Kd.R_drewN | apply Kd.R_drew)); exact HO_3.out))) (below_size (by repeat (first | (with_reducible first | exact HB.out | apply below_alloc | apply pw_below_drewN | apply below_drew1) | exact HB.out)))); have n2_ := Aside0.mk (below_step (by repeat (first | (with_reducible first | exact HB.out | apply below_alloc | apply pw_below_drewN | apply below_drew1) | exact HB.out)) hb); clear HO_3; clear HB; have HO_3 := n0_; have HO218 := n1_; have HB := n2_; clear n0_ n1_ n2_; (try clear hb); (try clear hb2); (try clear hk); (try clear hi); (try clear ho0); obtain ⟨Ao10, co10, eo10⟩ := Kd.R_slice HO218.out; subst eo10) | ((with_reducible refine gate_builtin (b := .append) (xs := #[.tmp 16, .tmp 18]) rfl ?_); at_builtin; refine Kd.R_append_rows (Kd.int .u8) (w0 := w) w.heap.size rfl (.tmp 16) (.tmp 18) 52 5 (.int .u8 0) 1 rfl Tryd.underlying52 info5 rfl (by decide) (by omega) u3 x3_1 t216 _ _ _ (fun k_ => some k_ ≠ (.slice Ao10 t216.length co10 : Value).ownBlock) (fun _ => False) rfl rfl ?aO ?aR (fun _ _ h => h) (fun _ h => h.elim) ?aF ?aB ?aS ?aL ?_; (case aR => repeat (first | exact (Kd.R_reads' HO218.out).2.2 | (with_reducible refine Kd.C_alloc ?_ _) | (with_reducible refine Kd.C_drewN ?_ _) | (with_reducible refine Kd.C_drew ?_))); (case aB => exact (by repeat (first | (with_reducible first | exact HB.out | apply below_alloc | apply pw_below_drewN | apply below_drew1) | exact HB.out))); (case aF => exact (fun k_ hk => Kd.fresh' (Kd.R_lt (by (with_reducible repeat (first | apply Kd.R_alloc | apply Kd.R_drewN | apply Kd.R_drew)); exact HO218.out)) k_ hk)); (case aO => exact (by (with_reducible repeat (first | apply Kd.R_alloc | apply Kd.R_drewN | apply Kd.R_drew)); exact Kd.R_mono HO_3.out (fun _ hk => hk.2))); (case aS => exact (below_size (by repeat (first | (with_reducible first | exact HB.out | apply below_alloc | apply pw_below_drewN | apply below_drew1) | exact HB.out)))); (case aL => have := LMc5.out; omega); intro v220 w9 ho hb hg hat; rw [← Ny219.out] at ho; have n0_ := Aside0.mk (Kd.R_after (ok := (fun _ => True)) (by (with_reducible repeat (first | apply Kd.R_alloc | apply Kd.R_drewN | apply Kd.R_drew)); exact HO218.out) hg hat); have n1_ := Aside0.mk (hb); have n2_ := Aside0.mk (ho); clear HO218; clear HB; clear HO_3; have HO218 := n0_; have HB := n1_; have HO221 := n2_; clear n0_ n1_ n2_; clear ho hb hg hat))
              go_roundg k1
              case measure => have := HK1.out; omega
              case rel => exact ⟨(x0_1.extract (t214 : Int).toNat x0_1.size), (y219), (by first | rfl | (simp; done) | (simp [*]; done) | (simp; unfold wrap64; omega)), H', ⟨by have := HK1.out; omega⟩, ⟨by (with_reducible repeat (first | apply Kd.R_alloc | apply Kd.R_drewN | apply Kd.R_drew)); exact Kd.R_mono HO221.out (fun _ hk => trivial)⟩, ⟨by repeat (first | (with_reducible first | exact HB.out | apply below_alloc | apply pw_below_drewN | apply below_drew1) | exact HB.out)⟩⟩
            · rw [if_neg c7] at H
              exact absurd H (by simp)
          · rw [if_neg c6] at H
            exact absurd H (by simp)
        · rw [if_neg c5] at H
          exact absurd H (by simp)
      · rw [if_neg c2] at H
        have c2b0 : decide (0 < (x0_1.size : Int)) = false := decide_eq_false c2
        have c2b1 : decide (0 < x0_1.size) = false := decide_eq_false (by omega)
        clear c2
        obtain rfl := Option.some.inj H
        have hcv11 := own_string (P := Tryd.prog) Tryd.underlying52 Tryd.underlying5 Tryd.underlying9 (Kd.own_of_R HO_3.out)
        go_wp2
        go_ret
        exact ⟨by first | rfl | (simp [errW_none, errW_some] <;> rfl) | (simp [*, errW_none, errW_some] <;> rfl), by repeat (first | (with_reducible first | exact HB.out | apply below_alloc | apply pw_below_drewN | apply below_drew1) | exact HB.out)⟩

/-! ### cringleref03_turned: function 64 -/
def cringleref03_turned.one (a b c : UInt8) : UInt8 := if c = a then b else c
def cringleref03_turned.f (a0 : ByteArray) (a1 : Int) (a2 : Int) : Option (ByteArray) := if a0.size ≤ 9223372036854775807 then (if 0 ≤ a1 ∧ a1 < 256 ∧ 0 ≤ a2 ∧ a2 < 256 then (some ⟨(a0.data.toList.map (cringleref03_turned.one a1.toNat.toUInt8 a2.toNat.toUInt8)).toArray⟩) else (none)) else (none)
/-- The first n bytes are turned. -/
def cringleref03_turned.part (a b : UInt8) (l : List UInt8) (n : Nat) : List UInt8 := (l.take n).map (cringleref03_turned.one a b) ++ l.drop n
theorem cringleref03_turned.part_length (a b : UInt8) (l : List UInt8) (n : Nat) : (cringleref03_turned.part a b l n).length = l.length := by simp [cringleref03_turned.part]; omega
theorem cringleref03_turned.part_at (a b : UInt8) (l : List UInt8) {n : Nat} (h : n < l.length) : (cringleref03_turned.part a b l n)[n]'(by rw [cringleref03_turned.part_length]; exact h) = l[n] := by
  unfold cringleref03_turned.part
  rw [List.getElem_append_right (by rw [List.length_map, List.length_take]; omega)]
  simp [Nat.min_eq_left (Nat.le_of_lt h)]
theorem cringleref03_turned.part_succ (a b : UInt8) (l : List UInt8) {n : Nat} (h : n < l.length) : (cringleref03_turned.part a b l n).set n (cringleref03_turned.one a b l[n]) = cringleref03_turned.part a b l (n + 1) := by
  unfold cringleref03_turned.part
  rw [List.set_append_right _ _ (by rw [List.length_map, List.length_take]; omega), List.take_succ_eq_append_getElem h, List.map_append, List.append_assoc]
  congr 1
  rw [List.length_map, List.length_take, Nat.min_eq_left (Nat.le_of_lt h), Nat.sub_self, List.drop_eq_getElem_cons h]
  rfl
theorem cringleref03_turned.part_same (a b : UInt8) (l : List UInt8) {n : Nat} (h : n < l.length) (hne : ¬ l[n] = a) : cringleref03_turned.part a b l (n + 1) = cringleref03_turned.part a b l n := by
  rw [← cringleref03_turned.part_succ a b l h]
  have h1 := cringleref03_turned.part_at a b l h
  unfold cringleref03_turned.one
  rw [if_neg hne, ← h1]
  exact List.set_getElem_self _
set_option maxHeartbeats 2000000 in
set_option maxRecDepth 100000 in
theorem cringleref03_turned.walk (a0 : ByteArray) (a b : UInt8) (hmax : a0.size ≤ 9223372036854775807) (w : World) :
    Calls Tryd.prog 64 #[.string a0, .int .u8 ((a.toNat : Nat) : Int), .int .u8 ((b.toNat : Nat) : Int)] w fun e w' => e = .returned (.string ⟨(a0.data.toList.map (cringleref03_turned.one a b)).toArray⟩) ∧ Below w.heap.size w w' := by
  have hconv := fun (W : World) (s : ByteArray) => Lib.run_convert_string_bytes (P := Tryd.prog) W 9 52 5 s Tryd.underlying9 Tryd.underlying52 Tryd.underlying5
  have hsz : a0.data.toList.length = a0.size := by rw [Array.length_toList]; rfl
  have HSZ := Aside0.mk hsz
  clear hsz
  go_enter Tryd.func64, Tryd.ntmps64
  go_wp2
  go_loopw [8] (fun j wr => ∃ n : Nat, n ≤ a0.size ∧ j = .int .i64 n ∧ Aside0 (MarkedBytes wr w.heap.size 5 (cringleref03_turned.part a b a0.data.toList n)) ∧ Aside0 (Below w.heap.size w wr)) (fun j _ => a0.size - (intOf j).toNat)
  case atStart =>
    refine ⟨0, Nat.zero_le _, rfl, ⟨?_⟩, ⟨Kd.below_bytesWorld (Below.refl _ _) (Nat.le_refl _)⟩⟩
    have := MarkedBytes.of_conv w 5 a0
    simpa [cringleref03_turned.part] using this
  case round =>
    obtain ⟨n, hn, rfl, HM, HB⟩ := hrel
    by_cases hlt : n < a0.size
    · have hl : n < a0.data.toList.length := by rw [HSZ.out]; exact hlt
      have hp : n < (cringleref03_turned.part a b a0.data.toList n).length := by rw [cringleref03_turned.part_length]; exact hl
      have hcell := HM.out.cell hp
      have hfz := HM.out.unfrozen hp
      rw [cringleref03_turned.part_at _ _ _ hl] at hcell
      obtain ⟨c, hc⟩ : ∃ c : UInt8, c = a0.data.toList[n] := ⟨_, rfl⟩
      rw [← hc] at hcell
      by_cases he : c = a
      · have HC := Aside0.mk (show cringleref03_turned.part a b a0.data.toList (n + 1) = (cringleref03_turned.part a b a0.data.toList n).set n b from by rw [← cringleref03_turned.part_succ a b _ hl, ← hc, he]; unfold cringleref03_turned.one; rw [if_pos rfl])
        clear hc
        subst he
        have HL := Aside0.mk hl
        have HP := Aside0.mk hp
        clear hl hp
        go_wp2
        go_roundw
        case rel =>
          refine ⟨n + 1, by omega, by go_num, ⟨?_⟩, ⟨?_⟩⟩
          · rw [HC.out]
            exact HM.out.set HP.out _
          · exact below_set HB.out (Nat.le_refl _)
        case measure => simp [intOf]; omega
      · have hne : ¬ ((c.toNat : Nat) : Int) = ((a.toNat : Nat) : Int) := fun q => he (UInt8.toNat_inj.1 (by omega))
        have HC := Aside0.mk (show cringleref03_turned.part a b a0.data.toList (n + 1) = cringleref03_turned.part a b a0.data.toList n from cringleref03_turned.part_same a b _ hl (by rw [← hc]; exact he))
        clear hc
        have HL := Aside0.mk hl
        have HP := Aside0.mk hp
        clear hl hp
        go_wp2
        go_roundw
        case rel =>
          refine ⟨n + 1, by omega, by go_num, ⟨?_⟩, ⟨?_⟩⟩
          · rw [HC.out]
            exact HM.out
          · exact HB.out
        case measure => simp [intOf]; omega
    · have hback : (convert 52 9 (.slice (some ⟨w.heap.size, 0, none⟩) a0.size (grownCap w a0.size 0 5))).run Tryd.prog wr = .ok (.string ⟨(a0.data.toList.map (cringleref03_turned.one a b)).toArray⟩) wr := by
        have hn2 : n = a0.data.toList.length := by rw [HSZ.out]; omega
        have h1 := HM.out.conv_back Tryd.underlying52 Tryd.underlying5 Tryd.underlying9 (grownCap w a0.size 0 5)
        rw [cringleref03_turned.part_length, HSZ.out] at h1
        rw [h1]
        unfold cringleref03_turned.part
        rw [hn2, List.take_length, List.drop_length, List.append_nil]
      go_wp2
      go_ret
      exact ⟨rfl, HB.out⟩
theorem cringleref03_turned.calls (a0 : ByteArray) (a1 : Int) (a2 : Int) (r : ByteArray) (w : World) (h : cringleref03_turned.f a0 a1 a2 = some r) :
    Calls Tryd.prog 64 #[.string a0, .int .u8 a1, .int .u8 a2] w fun e w' => e = .returned (.string r) ∧ Below w.heap.size w w' := by
  unfold cringleref03_turned.f at h
  by_cases h1 : a0.size ≤ 9223372036854775807
  case neg => rw [if_neg h1] at h; cases h
  by_cases h2 : 0 ≤ a1 ∧ a1 < 256 ∧ 0 ≤ a2 ∧ a2 < 256
  case neg => rw [if_pos h1, if_neg h2] at h; cases h
  rw [if_pos h1, if_pos h2] at h
  obtain rfl := Option.some.inj h
  have e : ∀ x : Int, 0 ≤ x → x < 256 → ((x.toNat.toUInt8.toNat : Nat) : Int) = x := fun x a b => by simp; omega
  have := cringleref03_turned.walk a0 a1.toNat.toUInt8 a2.toNat.toUInt8 h1 w
  rw [e a1 h2.1 h2.2.1, e a2 h2.2.2.1 h2.2.2.2] at this
  exact this

/-! ### cringleref03_read: function 42 -/
def cringleref03_read.f (k : Nat) (a0 : ByteArray) : Option (ByteArray) := (cringleref03_turned.f a0 43 32).bind fun t222 => ((cringleref03_Unmark.f k t222).bind fun t223 => ((cringleref02_Repair.f k t223).bind fun t224 => (some t224)))
theorem cringleref03_read.mono : ∀ a0 k, LeO (cringleref03_read.f k a0) (cringleref03_read.f (k + 1) a0) := by
  intro a0 k
  unfold cringleref03_read.f
  repeat' first
      | (with_reducible exact cringleref02_Repair.mono _ _)
      | (with_reducible exact cringleref03_Unmark.mono _ _)
      | (with_reducible exact LeO.refl _)
      | (with_reducible exact LeO.none _)
      | (with_reducible refine LeO.ite ?_ ?_)
      | (with_reducible refine LeO.bind ?_ (fun _ => ?_))
      | exact cringleref02_Repair.mono _ _
      | exact cringleref03_Unmark.mono _ _
      | exact LeO.none _
      | refine LeO.ite ?_ ?_
      | refine LeO.bind ?_ (fun _ => ?_)
set_option maxHeartbeats 8000000 in
set_option maxRecDepth 100000 in
theorem cringleref03_read.calls (k : Nat) (a0 : ByteArray) (r : ByteArray) (w : World) (h : cringleref03_read.f k a0 = some r) :
    Calls Tryd.prog 42 #[.string a0] w fun e w' => e = .returned (.string r) ∧ Below w.heap.size w w' := by
  have HB := Aside0.mk (Below.refl w.heap.size w)
  have H : ((cringleref03_turned.f a0 43 32).bind fun t222 => ((cringleref03_Unmark.f k t222).bind fun t223 => ((cringleref02_Repair.f k t223).bind fun t224 => (some t224)))) = some r := h
  clear h
  replace H := Option.bind_eq_some_iff.mp H
  obtain ⟨t222, A20, H⟩ := H
  replace H : ((cringleref03_Unmark.f k t222).bind fun t223 => ((cringleref02_Repair.f k t223).bind fun t224 => (some t224))) = some r := H
  have A2 := Aside0.mk A20
  clear A20
  replace H := Option.bind_eq_some_iff.mp H
  obtain ⟨t223, A30, H⟩ := H
  replace H : ((cringleref02_Repair.f k t223).bind fun t224 => (some t224)) = some r := H
  have A3 := Aside0.mk A30
  clear A30
  replace H := Option.bind_eq_some_iff.mp H
  obtain ⟨t224, A40, H⟩ := H
  replace H : (some t224) = some r := H
  have A4 := Aside0.mk A40
  clear A40
  obtain rfl := Option.some.inj H
  go_enter Tryd.func42, Tryd.ntmps42
  go_wp2_with (first | ((with_reducible refine gate_callee (f := 64) rfl ?_); refine goesL_ (some 4) rfl rfl Tryd.func64 (by kernel_rfl) rfl #[.string a0, .int .u8 43, .int .u8 32] rfl (by (try simp only [List.map_toArray, List.map_cons, List.map_nil]); first | done | rfl | (simp only [List.length_drop, List.length_take]; rfl)) ?_; (with_reducible refine (cringleref03_turned.calls a0 43 32 t222 _ A2.out).mono ?_); rintro e w5 ⟨rfl, hb⟩; refine ⟨_, rfl, ?_⟩; have n0_ := Aside0.mk (below_step (by repeat (first | (with_reducible first | exact HB.out | apply below_alloc | apply pw_below_drewN | apply below_drew1) | exact HB.out)) hb); clear HB; have HB := n0_; clear n0_; (try clear hb); (try clear hb2); (try clear hk); (try clear hi)) | ((with_reducible refine gate_callee (f := 14) rfl ?_); refine goesL_ (some 5) rfl rfl Tryd.func14 (by kernel_rfl) rfl #[.string t222] rfl (by (try simp only [List.map_toArray, List.map_cons, List.map_nil]); first | done | rfl | (simp only [List.length_drop, List.length_take]; rfl)) ?_; (with_reducible refine (cringleref03_Unmark.calls k t222 t223 _ A3.out).mono ?_); rintro e w6 ⟨rfl, hb⟩; refine ⟨_, rfl, ?_⟩; have n0_ := Aside0.mk (below_step (by repeat (first | (with_reducible first | exact HB.out | apply below_alloc | apply pw_below_drewN | apply below_drew1) | exact HB.out)) hb); clear HB; have HB := n0_; clear n0_; (try clear hb); (try clear hb2); (try clear hk); (try clear hi)) | ((with_reducible refine gate_callee (f := 63) rfl ?_); refine goesL_ (some 6) rfl rfl Tryd.func63 (by kernel_rfl) rfl #[.string t223] rfl (by (try simp only [List.map_toArray, List.map_cons, List.map_nil]); first | done | rfl | (simp only [List.length_drop, List.length_take]; rfl)) ?_; (with_reducible refine (cringleref02_Repair.calls k t223 t224 _ A4.out).mono ?_); rintro e w7 ⟨rfl, hb⟩; refine ⟨_, rfl, ?_⟩; have n0_ := Aside0.mk (below_step (by repeat (first | (with_reducible first | exact HB.out | apply below_alloc | apply pw_below_drewN | apply below_drew1) | exact HB.out)) hb); clear HB; have HB := n0_; clear n0_; (try clear hb); (try clear hb2); (try clear hk); (try clear hi)))
  go_ret
  exact ⟨by first | rfl | (simp [errW_none, errW_some] <;> rfl) | (simp [*, errW_none, errW_some] <;> rfl), by repeat (first | (with_reducible first | exact HB.out | apply below_alloc | apply pw_below_drewN | apply below_drew1) | exact HB.out)⟩

end Go.Proofs.YtopaheopdpkjbaaDoor.Q
