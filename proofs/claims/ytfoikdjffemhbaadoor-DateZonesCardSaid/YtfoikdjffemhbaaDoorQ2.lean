-- printed by a program of the session's own; Lean checks it
import Derived.Test.YtfoikdjffemhbaaDoorQ0
import Derived.Test.YtfoikdjffemhbaaDoorQ1
namespace Go.Proofs.YtfoikdjffemhbaaDoor.Q
open Go.RowKit Go.Proofs.YtfoikdjffemhbaaDoorW.PrintWords Go.Proofs.YtfoikdjffemhbaaDoorW.PrintLast Go.Proofs.YtfoikdjffemhbaaDoorW.PrintMore
attribute [local go_sem] max2_int min2_int max_two min_two max_three min_three max_four min_four   -- for this text's walks alone
set_option linter.unusedVariables false
set_option linter.unusedSimpArgs false

/-! ### cringleref06_ends: function 22 -/
mutual
def cringleref06_ends.l0 : Nat → Int → Int → Int → Option (Int × Int)
  | 0, _, _, _ => none
  | k + 1, x2, x3, x4 => if x4 < 1970 then ((cringleref06_year.f x4).bind fun t103 => (cringleref06_ends.l0 k (wrap64 (x2 - t103)) x3 (wrap64 (x4 + 1)))) else (cringleref06_ends.l1 k x2 x3 1970)
def cringleref06_ends.l1 : Nat → Int → Int → Int → Option (Int × Int)
  | 0, _, _, _ => none
  | k + 1, x2, x3, x5 => if x5 ≤ 9999 then ((cringleref06_year.f x5).bind fun t104 => (cringleref06_ends.l1 k x2 (wrap64 (x3 + t104)) (wrap64 (x5 + 1)))) else (some (x2, x3))
end
def cringleref06_ends.f (k : Nat)  : Option (Int × Int) := cringleref06_ends.l0 k 0 (-1) 1
theorem cringleref06_ends.mono_l : ∀ k, (∀ y0 y1 y2, LeO (cringleref06_ends.l0 k y0 y1 y2) (cringleref06_ends.l0 (k + 1) y0 y1 y2)) ∧ (∀ y0 y1 y2, LeO (cringleref06_ends.l1 k y0 y1 y2) (cringleref06_ends.l1 (k + 1) y0 y1 y2))
  | 0 => ⟨fun _ _ _ r h => by simp [cringleref06_ends.l0] at h, fun _ _ _ r h => by simp [cringleref06_ends.l1] at h⟩
  | k + 1 => by
    obtain ⟨ih0, ih1⟩ := cringleref06_ends.mono_l k
    refine ⟨?_, ?_⟩
    · intro y0 y1 y2
      unfold cringleref06_ends.l0
      repeat' first
      | (with_reducible exact ih0 _ _ _)
      | (with_reducible exact ih1 _ _ _)
      | (with_reducible exact LeO.refl _)
      | (with_reducible exact LeO.none _)
      | (with_reducible refine LeO.ite ?_ ?_)
      | (with_reducible refine LeO.bind ?_ (fun _ => ?_))
      | exact ih0 _ _ _
      | exact ih1 _ _ _
      | exact LeO.none _
      | refine LeO.ite ?_ ?_
      | refine LeO.bind ?_ (fun _ => ?_)
    · intro y0 y1 y2
      unfold cringleref06_ends.l1
      repeat' first
      | (with_reducible exact ih0 _ _ _)
      | (with_reducible exact ih1 _ _ _)
      | (with_reducible exact LeO.refl _)
      | (with_reducible exact LeO.none _)
      | (with_reducible refine LeO.ite ?_ ?_)
      | (with_reducible refine LeO.bind ?_ (fun _ => ?_))
      | exact ih0 _ _ _
      | exact ih1 _ _ _
      | exact LeO.none _
      | refine LeO.ite ?_ ?_
      | refine LeO.bind ?_ (fun _ => ?_)
theorem cringleref06_ends.mono : ∀ k, LeO (cringleref06_ends.f k ) (cringleref06_ends.f (k + 1) ) := by
  intro  k
  obtain ⟨ih0, ih1⟩ := cringleref06_ends.mono_l k
  unfold cringleref06_ends.f
  repeat' first
      | (with_reducible exact ih0 _ _ _)
      | (with_reducible exact ih1 _ _ _)
      | (with_reducible exact LeO.refl _)
      | (with_reducible exact LeO.none _)
      | (with_reducible refine LeO.ite ?_ ?_)
      | (with_reducible refine LeO.bind ?_ (fun _ => ?_))
      | exact ih0 _ _ _
      | exact ih1 _ _ _
      | exact LeO.none _
      | refine LeO.ite ?_ ?_
      | refine LeO.bind ?_ (fun _ => ?_)
set_option maxHeartbeats 8000000 in
set_option maxRecDepth 100000 in
theorem cringleref06_ends.calls (k : Nat)  (r1 : Int) (r2 : Int) (w : World) (h : cringleref06_ends.f k  = some (r1, r2)) :
    Calls Tryd.prog 22 #[] w fun e w' => e = .returned (.tuple #[.int .i64 r1, .int .i64 r2]) ∧ Drawn0 w w' := by
  have H : (cringleref06_ends.l0 k 0 (-1) 1) = some (r1, r2) := h
  clear h
  have H' := Aside0.mk H
  clear H
  go_enter Tryd.func22, Tryd.ntmps22
  go_wp2
  go_loopg [2, 4] k (fun kq v2 v4 w' => ∃ (x2_1 : Int) (x4_1 : Int), v2 = .int .i64 x2_1 ∧ v4 = .int .i64 x4_1 ∧ Aside0 (cringleref06_ends.l0 kq x2_1 (-1) x4_1 = some (r1, r2)) ∧ Aside0 (kq ≤ k) ∧ Drawn0 w w')
  case atStart => exact ⟨(0), (1), (by first | rfl | (simp; done) | (simp [*]; done) | (simp; unfold wrap64; omega)), (by first | rfl | (simp; done) | (simp [*]; done) | (simp; unfold wrap64; omega)), H', ⟨Nat.le_refl _⟩, by repeat (first | exact Drawn0.refl _ | apply Drawn0.step)⟩
  case round =>
    clear H'
    obtain ⟨x2_1, x4_1, rfl, rfl, HA, HK1, ⟨m1, rfl⟩⟩ := hrel
    cases gk with
    | zero => exact absurd HA.out (by simp [cringleref06_ends.l0])
    | succ k1 =>
      have H := HA.out
      clear HA
      simp only [cringleref06_ends.l0] at H
      by_cases c1 : x4_1 < 1970
      · rw [if_pos c1] at H
        have c1b0 : decide (x4_1 < 1970) = true := decide_eq_true c1
        clear c1
        replace H := Option.bind_eq_some_iff.mp H
        obtain ⟨t103, A20, H⟩ := H
        replace H : (cringleref06_ends.l0 k1 (wrap64 (x2_1 - t103)) (-1) (wrap64 (x4_1 + 1))) = some (r1, r2) := H
        have A2 := Aside0.mk A20
        clear A20
        have H' := Aside0.mk H
        clear H
        go_wp2_with (first | ((with_reducible refine gate_callee (f := 23) rfl ?_); refine goesL_ (some 12) rfl rfl Tryd.func23 (by kernel_rfl) rfl #[.int .i64 x4_1] rfl (by (try simp only [List.map_toArray, List.map_cons, List.map_nil]); first | done | rfl | (simp only [List.length_drop, List.length_take]; rfl)) ?_; (with_reducible refine (cringleref06_year.calls x4_1 t103 _ A2.out).mono ?_); rintro e w' ⟨rfl, ⟨nd, rfl⟩⟩; refine ⟨_, rfl, ?_⟩))
        go_roundg k1
        case measure => have := HK1.out; omega
        case rel => exact ⟨(wrap64 (x2_1 - t103)), (wrap64 (x4_1 + 1)), (by first | rfl | (simp; done) | (simp [*]; done) | (simp; unfold wrap64; omega)), (by first | rfl | (simp; done) | (simp [*]; done) | (simp; unfold wrap64; omega)), H', ⟨by have := HK1.out; omega⟩, by repeat (first | exact Drawn0.refl _ | apply Drawn0.step)⟩
      · rw [if_neg c1] at H
        have c1b0 : decide (x4_1 < 1970) = false := decide_eq_false c1
        clear c1
        have H' := Aside0.mk H
        clear H
        go_wp2
        go_loopg [3, 5] k1 (fun kq v3 v5 w' => ∃ (x3_2 : Int) (x5_2 : Int), v3 = .int .i64 x3_2 ∧ v5 = .int .i64 x5_2 ∧ Aside0 (cringleref06_ends.l1 kq x2_1 x3_2 x5_2 = some (r1, r2)) ∧ Aside0 (kq ≤ k1) ∧ Drawn0 w w')
        case atStart => exact ⟨((-1)), (1970), (by first | rfl | (simp; done) | (simp [*]; done) | (simp; unfold wrap64; omega)), (by first | rfl | (simp; done) | (simp [*]; done) | (simp; unfold wrap64; omega)), H', ⟨Nat.le_refl _⟩, by repeat (first | exact Drawn0.refl _ | apply Drawn0.step)⟩
        case round =>
          clear H'
          try clear c1
          try clear c1b0
          try clear c2
          try clear p2
          obtain ⟨x3_2, x5_2, rfl, rfl, HA, HK2, ⟨m2, rfl⟩⟩ := hrel
          cases gk with
          | zero => exact absurd HA.out (by simp [cringleref06_ends.l1])
          | succ k2 =>
            have H := HA.out
            clear HA
            simp only [cringleref06_ends.l1] at H
            by_cases c3 : x5_2 ≤ 9999
            · rw [if_pos c3] at H
              have c3b0 : decide (x5_2 ≤ 9999) = true := decide_eq_true c3
              clear c3
              replace H := Option.bind_eq_some_iff.mp H
              obtain ⟨t104, A40, H⟩ := H
              replace H : (cringleref06_ends.l1 k2 x2_1 (wrap64 (x3_2 + t104)) (wrap64 (x5_2 + 1))) = some (r1, r2) := H
              have A4 := Aside0.mk A40
              clear A40
              have H' := Aside0.mk H
              clear H
              go_wp2_with (first | ((with_reducible refine gate_callee (f := 23) rfl ?_); refine goesL_ (some 20) rfl rfl Tryd.func23 (by kernel_rfl) rfl #[.int .i64 x5_2] rfl (by (try simp only [List.map_toArray, List.map_cons, List.map_nil]); first | done | rfl | (simp only [List.length_drop, List.length_take]; rfl)) ?_; (with_reducible refine (cringleref06_year.calls x5_2 t104 _ A4.out).mono ?_); rintro e w' ⟨rfl, ⟨nd, rfl⟩⟩; refine ⟨_, rfl, ?_⟩))
              go_roundg k2
              case measure => have := HK1.out; have := HK2.out; omega
              case rel => exact ⟨(wrap64 (x3_2 + t104)), (wrap64 (x5_2 + 1)), (by first | rfl | (simp; done) | (simp [*]; done) | (simp; unfold wrap64; omega)), (by first | rfl | (simp; done) | (simp [*]; done) | (simp; unfold wrap64; omega)), H', ⟨by have := HK1.out; have := HK2.out; omega⟩, by repeat (first | exact Drawn0.refl _ | apply Drawn0.step)⟩
            · rw [if_neg c3] at H
              have c3b0 : decide (x5_2 ≤ 9999) = false := decide_eq_false c3
              clear c3
              simp only [Option.some.injEq, Prod.mk.injEq] at H
              obtain ⟨rfl, rfl⟩ := H
              go_wp2
              go_ret2
              exact ⟨by first | rfl | (simp; done) | (simp [*]; done) | (simp; unfold wrap64; omega), by repeat (first | exact Drawn0.refl _ | apply Drawn0.step)⟩

/-! ### cringleref06_Days: function 9 -/
mutual
def cringleref06_Days.j0 : Nat → Int → Int → Int → Bool → Option (Int × Int)
  | 0, _, _, _, _ => none
  | k + 1, x0, x1, x2, x36 => if x36 = true then (some (0, 3)) else ((cringleref06_ends.f k).bind fun bt106 => (cringleref06_Days.l0 k x0 x1 x2 bt106.1 1))
def cringleref06_Days.l0 : Nat → Int → Int → Int → Int → Int → Option (Int × Int)
  | 0, _, _, _, _, _ => none
  | k + 1, x0, x1, x2, x8, x10 => if x10 < x0 then ((cringleref06_year.f x10).bind fun t108 => (cringleref06_Days.l0 k x0 x1 x2 (wrap64 (x8 + t108)) (wrap64 (x10 + 1)))) else (cringleref06_Days.l1 k x0 x1 x2 x8 1)
def cringleref06_Days.l1 : Nat → Int → Int → Int → Int → Int → Option (Int × Int)
  | 0, _, _, _, _, _ => none
  | k + 1, x0, x1, x2, x8, x11 => if x11 < x1 then ((cringleref06_month.f x0 x11).bind fun t109 => (cringleref06_Days.l1 k x0 x1 x2 (wrap64 (x8 + t109)) (wrap64 (x11 + 1)))) else (some (wrap64 ((wrap64 (x8 + x2)) - 1), 0))
end
def cringleref06_Days.f (k : Nat) (a0 : Int) (a1 : Int) (a2 : Int) : Option (Int × Int) := if a0 < 1 then (cringleref06_Days.j0 k a0 a1 a2 true) else (if a0 > 9999 then (cringleref06_Days.j0 k a0 a1 a2 true) else (if a1 < 1 then (cringleref06_Days.j0 k a0 a1 a2 true) else (if a1 > 12 then (cringleref06_Days.j0 k a0 a1 a2 true) else (if a2 < 1 then (cringleref06_Days.j0 k a0 a1 a2 true) else ((cringleref06_month.f a0 a1).bind fun t105 => (cringleref06_Days.j0 k a0 a1 a2 (decide (a2 > t105))))))))
theorem cringleref06_Days.mono_l : ∀ k, (∀ y0 y1 y2 y3, LeO (cringleref06_Days.j0 k y0 y1 y2 y3) (cringleref06_Days.j0 (k + 1) y0 y1 y2 y3)) ∧ (∀ y0 y1 y2 y3 y4, LeO (cringleref06_Days.l0 k y0 y1 y2 y3 y4) (cringleref06_Days.l0 (k + 1) y0 y1 y2 y3 y4)) ∧ (∀ y0 y1 y2 y3 y4, LeO (cringleref06_Days.l1 k y0 y1 y2 y3 y4) (cringleref06_Days.l1 (k + 1) y0 y1 y2 y3 y4))
  | 0 => ⟨fun _ _ _ _ r h => by simp [cringleref06_Days.j0] at h, fun _ _ _ _ _ r h => by simp [cringleref06_Days.l0] at h, fun _ _ _ _ _ r h => by simp [cringleref06_Days.l1] at h⟩
  | k + 1 => by
    obtain ⟨ih0, ih1, ih2⟩ := cringleref06_Days.mono_l k
    refine ⟨?_, ?_, ?_⟩
    · intro y0 y1 y2 y3
      unfold cringleref06_Days.j0
      repeat' first
      | (with_reducible exact ih0 _ _ _ _)
      | (with_reducible exact ih1 _ _ _ _ _)
      | (with_reducible exact ih2 _ _ _ _ _)
      | (with_reducible exact cringleref06_ends.mono _)
      | (with_reducible exact LeO.refl _)
      | (with_reducible exact LeO.none _)
      | (with_reducible refine LeO.ite ?_ ?_)
      | (with_reducible refine LeO.bind ?_ (fun _ => ?_))
      | exact ih0 _ _ _ _
      | exact ih1 _ _ _ _ _
      | exact ih2 _ _ _ _ _
      | exact cringleref06_ends.mono _
      | exact LeO.none _
      | refine LeO.ite ?_ ?_
      | refine LeO.bind ?_ (fun _ => ?_)
    · intro y0 y1 y2 y3 y4
      unfold cringleref06_Days.l0
      repeat' first
      | (with_reducible exact ih0 _ _ _ _)
      | (with_reducible exact ih1 _ _ _ _ _)
      | (with_reducible exact ih2 _ _ _ _ _)
      | (with_reducible exact cringleref06_ends.mono _)
      | (with_reducible exact LeO.refl _)
      | (with_reducible exact LeO.none _)
      | (with_reducible refine LeO.ite ?_ ?_)
      | (with_reducible refine LeO.bind ?_ (fun _ => ?_))
      | exact ih0 _ _ _ _
      | exact ih1 _ _ _ _ _
      | exact ih2 _ _ _ _ _
      | exact cringleref06_ends.mono _
      | exact LeO.none _
      | refine LeO.ite ?_ ?_
      | refine LeO.bind ?_ (fun _ => ?_)
    · intro y0 y1 y2 y3 y4
      unfold cringleref06_Days.l1
      repeat' first
      | (with_reducible exact ih0 _ _ _ _)
      | (with_reducible exact ih1 _ _ _ _ _)
      | (with_reducible exact ih2 _ _ _ _ _)
      | (with_reducible exact cringleref06_ends.mono _)
      | (with_reducible exact LeO.refl _)
      | (with_reducible exact LeO.none _)
      | (with_reducible refine LeO.ite ?_ ?_)
      | (with_reducible refine LeO.bind ?_ (fun _ => ?_))
      | exact ih0 _ _ _ _
      | exact ih1 _ _ _ _ _
      | exact ih2 _ _ _ _ _
      | exact cringleref06_ends.mono _
      | exact LeO.none _
      | refine LeO.ite ?_ ?_
      | refine LeO.bind ?_ (fun _ => ?_)
theorem cringleref06_Days.mono : ∀ a0 a1 a2 k, LeO (cringleref06_Days.f k a0 a1 a2) (cringleref06_Days.f (k + 1) a0 a1 a2) := by
  intro a0 a1 a2 k
  obtain ⟨ih0, ih1, ih2⟩ := cringleref06_Days.mono_l k
  unfold cringleref06_Days.f
  repeat' first
      | (with_reducible exact ih0 _ _ _ _)
      | (with_reducible exact ih1 _ _ _ _ _)
      | (with_reducible exact ih2 _ _ _ _ _)
      | (with_reducible exact cringleref06_ends.mono _)
      | (with_reducible exact LeO.refl _)
      | (with_reducible exact LeO.none _)
      | (with_reducible refine LeO.ite ?_ ?_)
      | (with_reducible refine LeO.bind ?_ (fun _ => ?_))
      | exact ih0 _ _ _ _
      | exact ih1 _ _ _ _ _
      | exact ih2 _ _ _ _ _
      | exact cringleref06_ends.mono _
      | exact LeO.none _
      | refine LeO.ite ?_ ?_
      | refine LeO.bind ?_ (fun _ => ?_)
set_option maxHeartbeats 8000000 in
set_option maxRecDepth 100000 in
theorem cringleref06_Days.calls (k : Nat) (a0 : Int) (a1 : Int) (a2 : Int) (r1 : Int) (r2 : Int) (w : World) (h : cringleref06_Days.f k a0 a1 a2 = some (r1, r2)) :
    Calls Tryd.prog 9 #[.int .i64 a0, .int .i64 a1, .int .i64 a2] w fun e w' => e = .returned (.tuple #[.int .i64 r1, .int .i64 r2]) ∧ Drawn0 w w' := by
  have H : (if a0 < 1 then (cringleref06_Days.j0 k a0 a1 a2 true) else (if a0 > 9999 then (cringleref06_Days.j0 k a0 a1 a2 true) else (if a1 < 1 then (cringleref06_Days.j0 k a0 a1 a2 true) else (if a1 > 12 then (cringleref06_Days.j0 k a0 a1 a2 true) else (if a2 < 1 then (cringleref06_Days.j0 k a0 a1 a2 true) else ((cringleref06_month.f a0 a1).bind fun t105 => (cringleref06_Days.j0 k a0 a1 a2 (decide (a2 > t105))))))))) = some (r1, r2) := h
  clear h
  have HC4 := Aside0.mk H
  clear H
  go_enter Tryd.func9, Tryd.ntmps9
  go_upto_region 1 with (fail)
  go_cut [36] (fun v36 wc => ∃ (kq : Nat) (x36_3 : Bool), v36 = .bool x36_3 ∧ Aside0 (cringleref06_Days.j0 kq a0 a1 a2 x36_3 = some (r1, r2)) ∧ Aside0 (kq ≤ k) ∧ Drawn0 w wc)
  case first =>
    have H := HC4.out
    clear HC4
    by_cases c5 : a0 < 1
    · rw [if_pos c5] at H
      have c5b0 : decide (a0 < 1) = true := decide_eq_true c5
      clear c5
      (first | rw [c5b0] | (simp only [i64_w, i32_w]; rw [c5b0]) | skip)
      have H' := Aside0.mk H
      clear H
      go_wp2
      go_meet
      case rel => exact ⟨_, (true), (by first | rfl | (simp; done) | (simp [*]; done) | (simp; unfold wrap64; omega)), H', ⟨by first | omega | exact Nat.le_refl _⟩, by repeat (first | exact Drawn0.refl _ | apply Drawn0.step)⟩
    · rw [if_neg c5] at H
      have c5b0 : decide (a0 < 1) = false := decide_eq_false c5
      clear c5
      (first | rw [c5b0] | (simp only [i64_w, i32_w]; rw [c5b0]) | skip)
      by_cases c6 : a0 > 9999
      · rw [if_pos c6] at H
        have c6b0 : decide (9999 < a0) = true := decide_eq_true c6
        clear c6
        have H' := Aside0.mk H
        clear H
        go_wp2
        go_meet
        case rel => exact ⟨_, (true), (by first | rfl | (simp; done) | (simp [*]; done) | (simp; unfold wrap64; omega)), H', ⟨by first | omega | exact Nat.le_refl _⟩, by repeat (first | exact Drawn0.refl _ | apply Drawn0.step)⟩
      · rw [if_neg c6] at H
        have c6b0 : decide (9999 < a0) = false := decide_eq_false c6
        clear c6
        by_cases c7 : a1 < 1
        · rw [if_pos c7] at H
          have c7b0 : decide (a1 < 1) = true := decide_eq_true c7
          clear c7
          have H' := Aside0.mk H
          clear H
          go_wp2
          go_meet
          case rel => exact ⟨_, (true), (by first | rfl | (simp; done) | (simp [*]; done) | (simp; unfold wrap64; omega)), H', ⟨by first | omega | exact Nat.le_refl _⟩, by repeat (first | exact Drawn0.refl _ | apply Drawn0.step)⟩
        · rw [if_neg c7] at H
          have c7b0 : decide (a1 < 1) = false := decide_eq_false c7
          clear c7
          by_cases c8 : a1 > 12
          · rw [if_pos c8] at H
            have c8b0 : decide (12 < a1) = true := decide_eq_true c8
            clear c8
            have H' := Aside0.mk H
            clear H
            go_wp2
            go_meet
            case rel => exact ⟨_, (true), (by first | rfl | (simp; done) | (simp [*]; done) | (simp; unfold wrap64; omega)), H', ⟨by first | omega | exact Nat.le_refl _⟩, by repeat (first | exact Drawn0.refl _ | apply Drawn0.step)⟩
          · rw [if_neg c8] at H
            have c8b0 : decide (12 < a1) = false := decide_eq_false c8
            clear c8
            by_cases c9 : a2 < 1
            · rw [if_pos c9] at H
              have c9b0 : decide (a2 < 1) = true := decide_eq_true c9
              clear c9
              have H' := Aside0.mk H
              clear H
              go_wp2
              go_meet
              case rel => exact ⟨_, (true), (by first | rfl | (simp; done) | (simp [*]; done) | (simp; unfold wrap64; omega)), H', ⟨by first | omega | exact Nat.le_refl _⟩, by repeat (first | exact Drawn0.refl _ | apply Drawn0.step)⟩
            · rw [if_neg c9] at H
              have c9b0 : decide (a2 < 1) = false := decide_eq_false c9
              clear c9
              replace H := Option.bind_eq_some_iff.mp H
              obtain ⟨t105, A100, H⟩ := H
              replace H : (cringleref06_Days.j0 k a0 a1 a2 (decide (a2 > t105))) = some (r1, r2) := H
              have A10 := Aside0.mk A100
              clear A100
              have H' := Aside0.mk H
              clear H
              go_wp2_with (first | (go_at_call 21; (with_reducible refine (cringleref06_month.calls a0 a1 t105 _ A10.out).mono ?_); rintro e w' ⟨rfl, ⟨nd, rfl⟩⟩))
              go_meet
              case rel => exact ⟨_, (decide (a2 > t105)), (by first | rfl | (simp; done) | (simp [*]; done) | (simp; unfold wrap64; omega)), H', ⟨by first | omega | exact Nat.le_refl _⟩, by repeat (first | exact Drawn0.refl _ | apply Drawn0.step)⟩
  case rest =>
    clear HC4
    try clear p2
    try clear c5
    try clear c5b0
    try clear c6
    try clear c6b0
    try clear p6
    try clear c7
    try clear c7b0
    try clear c8
    try clear c8b0
    try clear c9
    try clear c9b0
    obtain ⟨kq, x36_3, rfl, HA, HJ3, ⟨mc3, rfl⟩⟩ := hcut
    cases kq with
    | zero => exact absurd HA.out (by simp [cringleref06_Days.j0])
    | succ kj3 =>
      have H := HA.out
      clear HA
      simp only [cringleref06_Days.j0] at H
      by_cases c11 : x36_3 = true
      · subst c11
        have H1 : (some (0, 3)) = some (r1, r2) := by rw [if_pos rfl] at H; exact H
        clear H
        have H := H1
        clear H1
        simp only [Option.some.injEq, Prod.mk.injEq] at H
        obtain ⟨rfl, rfl⟩ := H
        go_wp2
        go_ret2
        exact ⟨by first | rfl | (simp; done) | (simp [*]; done) | (simp; unfold wrap64; omega), by repeat (first | exact Drawn0.refl _ | apply Drawn0.step)⟩
      · replace c11 := Bool.eq_false_iff.mpr c11
        subst c11
        have H1 : ((cringleref06_ends.f kj3).bind fun bt106 => (cringleref06_Days.l0 kj3 a0 a1 a2 bt106.1 1)) = some (r1, r2) := by rw [if_neg (show ¬ (false = true) by decide)] at H; exact H
        clear H
        have H := H1
        clear H1
        replace H := Option.bind_eq_some_iff.mp H
        obtain ⟨⟨t106, t107⟩, A120, H⟩ := H
        replace H : (cringleref06_Days.l0 kj3 a0 a1 a2 t106 1) = some (r1, r2) := H
        have A12 := Aside0.mk A120
        clear A120
        have H' := Aside0.mk H
        clear H
        go_wp2_with (first | ((with_reducible refine gate_callee (f := 22) rfl ?_); refine goesL_ (some 38) rfl rfl Tryd.func22 (by kernel_rfl) rfl #[] rfl (by (try simp only [List.map_toArray, List.map_cons, List.map_nil]); first | done | rfl | (simp only [List.length_drop, List.length_take]; rfl)) ?_; (with_reducible refine (cringleref06_ends.calls kj3  t106 t107 _ A12.out).mono ?_); rintro e w' ⟨rfl, ⟨nd, rfl⟩⟩; refine ⟨_, rfl, ?_⟩))
        go_loopg [8, 10] kj3 (fun kq v8 v10 w' => ∃ (x8_2 : Int) (x10_2 : Int), v8 = .int .i64 x8_2 ∧ v10 = .int .i64 x10_2 ∧ Aside0 (cringleref06_Days.l0 kq a0 a1 a2 x8_2 x10_2 = some (r1, r2)) ∧ Aside0 (kq ≤ kj3) ∧ Drawn0 w w')
        case atStart => exact ⟨(t106), (1), (by first | rfl | (simp; done) | (simp [*]; done) | (simp; unfold wrap64; omega)), (by first | rfl | (simp; done) | (simp [*]; done) | (simp; unfold wrap64; omega)), H', ⟨Nat.le_refl _⟩, by repeat (first | exact Drawn0.refl _ | apply Drawn0.step)⟩
        case round =>
          clear H'
          try clear c1
          try clear c2
          try clear p2
          try clear c3
          try clear c5
          try clear c5b0
          try clear c6
          try clear c6b0
          try clear p6
          try clear c7
          try clear c7b0
          try clear c8
          try clear c8b0
          try clear c9
          try clear c9b0
          try clear c11
          try clear p2
          try clear p6
          obtain ⟨x8_2, x10_2, rfl, rfl, HA, HK2, ⟨m2, rfl⟩⟩ := hrel
          cases gk with
          | zero => exact absurd HA.out (by simp [cringleref06_Days.l0])
          | succ k2 =>
            have H := HA.out
            clear HA
            simp only [cringleref06_Days.l0] at H
            by_cases c13 : x10_2 < a0
            · rw [if_pos c13] at H
              have c13b0 : decide (x10_2 < a0) = true := decide_eq_true c13
              clear c13
              replace H := Option.bind_eq_some_iff.mp H
              obtain ⟨t108, A140, H⟩ := H
              replace H : (cringleref06_Days.l0 k2 a0 a1 a2 (wrap64 (x8_2 + t108)) (wrap64 (x10_2 + 1))) = some (r1, r2) := H
              have A14 := Aside0.mk A140
              clear A140
              have H' := Aside0.mk H
              clear H
              go_wp2_with (first | ((with_reducible refine gate_callee (f := 23) rfl ?_); refine goesL_ (some 48) rfl rfl Tryd.func23 (by kernel_rfl) rfl #[.int .i64 x10_2] rfl (by (try simp only [List.map_toArray, List.map_cons, List.map_nil]); first | done | rfl | (simp only [List.length_drop, List.length_take]; rfl)) ?_; (with_reducible refine (cringleref06_year.calls x10_2 t108 _ A14.out).mono ?_); rintro e w' ⟨rfl, ⟨nd, rfl⟩⟩; refine ⟨_, rfl, ?_⟩))
              go_roundg k2
              case measure => have := HJ3.out; have := HK2.out; omega
              case rel => exact ⟨(wrap64 (x8_2 + t108)), (wrap64 (x10_2 + 1)), (by first | rfl | (simp; done) | (simp [*]; done) | (simp; unfold wrap64; omega)), (by first | rfl | (simp; done) | (simp [*]; done) | (simp; unfold wrap64; omega)), H', ⟨by have := HJ3.out; have := HK2.out; omega⟩, by repeat (first | exact Drawn0.refl _ | apply Drawn0.step)⟩
            · rw [if_neg c13] at H
              have c13b0 : decide (x10_2 < a0) = false := decide_eq_false c13
              clear c13
              have H' := Aside0.mk H
              clear H
              go_wp2
              go_loopg [8, 11] k2 (fun kq v8 v11 w' => ∃ (x8_3 : Int) (x11_3 : Int), v8 = .int .i64 x8_3 ∧ v11 = .int .i64 x11_3 ∧ Aside0 (cringleref06_Days.l1 kq a0 a1 a2 x8_3 x11_3 = some (r1, r2)) ∧ Aside0 (kq ≤ k2) ∧ Drawn0 w w')
              case atStart => exact ⟨(x8_2), (1), (by first | rfl | (simp; done) | (simp [*]; done) | (simp; unfold wrap64; omega)), (by first | rfl | (simp; done) | (simp [*]; done) | (simp; unfold wrap64; omega)), H', ⟨Nat.le_refl _⟩, by repeat (first | exact Drawn0.refl _ | apply Drawn0.step)⟩
              case round =>
                clear H'
                try clear c1
                try clear c2
                try clear p2
                try clear c3
                try clear c5
                try clear c5b0
                try clear c6
                try clear c6b0
                try clear p6
                try clear c7
                try clear c7b0
                try clear c8
                try clear c8b0
                try clear c9
                try clear c9b0
                try clear c11
                try clear c13
                try clear c13b0
                try clear p2
                try clear p6
                obtain ⟨x8_3, x11_3, rfl, rfl, HA, HK3, ⟨m3, rfl⟩⟩ := hrel
                cases gk with
                | zero => exact absurd HA.out (by simp [cringleref06_Days.l1])
                | succ k3 =>
                  have H := HA.out
                  clear HA
                  simp only [cringleref06_Days.l1] at H
                  by_cases c15 : x11_3 < a1
                  · rw [if_pos c15] at H
                    have c15b0 : decide (x11_3 < a1) = true := decide_eq_true c15
                    clear c15
                    replace H := Option.bind_eq_some_iff.mp H
                    obtain ⟨t109, A160, H⟩ := H
                    replace H : (cringleref06_Days.l1 k3 a0 a1 a2 (wrap64 (x8_3 + t109)) (wrap64 (x11_3 + 1))) = some (r1, r2) := H
                    have A16 := Aside0.mk A160
                    clear A160
                    have H' := Aside0.mk H
                    clear H
                    go_wp2_with (first | ((with_reducible refine gate_callee (f := 21) rfl ?_); refine goesL_ (some 58) rfl rfl Tryd.func21 (by kernel_rfl) rfl #[.int .i64 a0, .int .i64 x11_3] rfl (by (try simp only [List.map_toArray, List.map_cons, List.map_nil]); first | done | rfl | (simp only [List.length_drop, List.length_take]; rfl)) ?_; (with_reducible refine (cringleref06_month.calls a0 x11_3 t109 _ A16.out).mono ?_); rintro e w' ⟨rfl, ⟨nd, rfl⟩⟩; refine ⟨_, rfl, ?_⟩))
                    go_roundg k3
                    case measure => have := HJ3.out; have := HK2.out; have := HK3.out; omega
                    case rel => exact ⟨(wrap64 (x8_3 + t109)), (wrap64 (x11_3 + 1)), (by first | rfl | (simp; done) | (simp [*]; done) | (simp; unfold wrap64; omega)), (by first | rfl | (simp; done) | (simp [*]; done) | (simp; unfold wrap64; omega)), H', ⟨by have := HJ3.out; have := HK2.out; have := HK3.out; omega⟩, by repeat (first | exact Drawn0.refl _ | apply Drawn0.step)⟩
                  · rw [if_neg c15] at H
                    have c15b0 : decide (x11_3 < a1) = false := decide_eq_false c15
                    clear c15
                    simp only [Option.some.injEq, Prod.mk.injEq] at H
                    obtain ⟨rfl, rfl⟩ := H
                    go_wp2
                    go_ret2
                    exact ⟨by first | rfl | (simp; done) | (simp [*]; done) | (simp; unfold wrap64; omega), by repeat (first | exact Drawn0.refl _ | apply Drawn0.step)⟩

/-! ### date.Civil -/
mutual
def date_Civil.l0 : Nat → Int → Int → Option (Int × Int × Int × Int)
  | 0, _, _ => none
  | k + 1, d, y => (date_begin.f y).bind fun t => if t > d then date_Civil.l0 k d (wrap64 (y - 1)) else date_Civil.l1 k d y
def date_Civil.l1 : Nat → Int → Int → Option (Int × Int × Int × Int)
  | 0, _, _ => none
  | k + 1, d, y => (date_begin.f (wrap64 (y + 1))).bind fun t => if t ≤ d then date_Civil.l1 k d (wrap64 (y + 1)) else (date_begin.f y).bind fun t => (date_ahead.l y).bind fun l => date_Civil.l2 k y (wrap64 (d - t)) l 1
def date_Civil.l2 : Nat → Int → Int → List Int → Int → Option (Int × Int × Int × Int)
  | 0, _, _, _, _ => none
  | k + 1, y, left, l, m => if 1 ≤ m then (if m < 13 then (if rd l m ≤ left then date_Civil.l2 k y left l (m + 1) else some (y, m, wrap64 (wrap64 (left - rd l (m - 1)) + 1), 0)) else none) else none
end
def date_Civil.f (k : Nat) (d : Int) : Option (Int × Int × Int × Int) := (date_begin.f 1).bind fun a => if d < a then some (0, 0, 0, 3) else (date_begin.f 10000).bind fun b => if d ≥ b then some (0, 0, 0, 3) else (date_begin.f 1).bind fun t => date_Civil.l0 k d (wrap64 (wrap64 (Int.tdiv (wrap64 (wrap64 (d - t) * 400)) 146097) + 1))
theorem date_Civil.mono_l : ∀ k, (∀ y0 y1, LeO (date_Civil.l0 k y0 y1) (date_Civil.l0 (k + 1) y0 y1)) ∧ (∀ y0 y1, LeO (date_Civil.l1 k y0 y1) (date_Civil.l1 (k + 1) y0 y1)) ∧ (∀ y0 y1 y2 y3, LeO (date_Civil.l2 k y0 y1 y2 y3) (date_Civil.l2 (k + 1) y0 y1 y2 y3))
  | 0 => ⟨fun _ _ r h => by simp [date_Civil.l0] at h, fun _ _ r h => by simp [date_Civil.l1] at h, fun _ _ _ _ r h => by simp [date_Civil.l2] at h⟩
  | k + 1 => by
    obtain ⟨ih0, ih1, ih2⟩ := date_Civil.mono_l k
    refine ⟨fun y0 y1 => ?_, fun y0 y1 => ?_, fun y0 y1 y2 y3 => ?_⟩
    · rw [date_Civil.l0, date_Civil.l0]
      exact LeO.bind (LeO.refl _) (fun _ => LeO.ite (ih0 _ _) (ih1 _ _))
    · rw [date_Civil.l1, date_Civil.l1]
      exact LeO.bind (LeO.refl _) (fun _ => LeO.ite (ih1 _ _) (LeO.bind (LeO.refl _) (fun _ => LeO.bind (LeO.refl _) (fun _ => ih2 _ _ _ _))))
    · rw [date_Civil.l2, date_Civil.l2]
      exact LeO.ite (LeO.ite (LeO.ite (ih2 _ _ _ _) (LeO.refl _)) (LeO.refl _)) (LeO.refl _)
theorem date_Civil.mono : ∀ a0 k, LeO (date_Civil.f k a0) (date_Civil.f (k + 1) a0) := by
  intro a0 k
  unfold date_Civil.f
  exact LeO.bind (LeO.refl _) (fun _ => LeO.ite (LeO.refl _) (LeO.bind (LeO.refl _) (fun _ => LeO.ite (LeO.refl _) (LeO.bind (LeO.refl _) (fun _ => (date_Civil.mono_l k).1 _ _)))))
set_option maxHeartbeats 2000000 in
set_option maxRecDepth 100000 in
theorem date_Civil.calls (k : Nat) (d : Int) (r1 r2 r3 r4 : Int) (w : World) (h : date_Civil.f k d = some (r1, r2, r3, r4)) :
    Calls Tryd.prog 13 #[.int .i64 d] w fun e w' => e = .returned (.tuple #[.int .i64 r1, .int .i64 r2, .int .i64 r3, .int .i64 r4]) ∧ Below w.heap.size w w' := by
  unfold date_Civil.f at h
  obtain ⟨a, ha, h⟩ := Option.bind_eq_some_iff.mp h
  have HA := Aside0.mk ha
  go_enter Tryd.func13, Tryd.ntmps13
  go_wp2_with fail
  refine (date_begin.calls 1 a _ HA.out).mono ?_
  rintro e w1 ⟨rfl, hw⟩
  have HB1 := Aside0.mk hw.below
  clear hw ha
  by_cases c1 : d < a
  · rw [if_pos c1] at h
    simp only [Option.some.injEq, Prod.mk.injEq] at h
    obtain ⟨rfl, rfl, rfl, rfl⟩ := h
    go_wp2_with fail
    refine bodyPost_ret (results_list (rs := [.tmp 2, .tmp 3, .tmp 4, .tmp 5]) rfl (by simp) (.tmp (.tmp (.tmp (.tmp .nil))))) rfl ?_
    exact ⟨rfl, HB1.out⟩
  rw [if_neg c1] at h
  obtain ⟨b, hb, h⟩ := Option.bind_eq_some_iff.mp h
  have HBG := Aside0.mk hb
  go_wp2_with fail
  refine (date_begin.calls 10000 b _ HBG.out).mono ?_
  rintro e w2 ⟨rfl, hw⟩
  have HB2 := Aside0.mk (below_step HB1.out hw.below)
  clear hw hb HB1
  by_cases c2 : d ≥ b
  · rw [if_pos c2] at h
    simp only [Option.some.injEq, Prod.mk.injEq] at h
    obtain ⟨rfl, rfl, rfl, rfl⟩ := h
    go_wp2_with fail
    refine bodyPost_ret (results_list (rs := [.tmp 2, .tmp 3, .tmp 4, .tmp 5]) rfl (by simp) (.tmp (.tmp (.tmp (.tmp .nil))))) rfl ?_
    exact ⟨rfl, HB2.out⟩
  rw [if_neg c2] at h
  obtain ⟨t, ht, h⟩ := Option.bind_eq_some_iff.mp h
  have HT := Aside0.mk ht
  have H := Aside0.mk h
  clear ht h
  go_wp2_with fail
  refine (date_begin.calls 1 t _ HT.out).mono ?_
  rintro e w3 ⟨rfl, hw⟩
  have HB3 := Aside0.mk (below_step HB2.out hw.below)
  clear hw HB2
  go_wp2_with fail
  go_loopg [6] k (fun kq v6 w' => ∃ y : Int, v6 = .int .i64 y ∧ Aside0 (date_Civil.l0 kq d y = some (r1, r2, r3, r4)) ∧ Aside0 (kq ≤ k) ∧ Aside0 (Below w.heap.size w w'))
  case atStart => exact ⟨_, rfl, H, ⟨Nat.le_refl _⟩, HB3⟩
  case round =>
    clear H HB3
    obtain ⟨y, rfl, HL, HK, HB⟩ := hrel
    cases gk with
    | zero => exact absurd HL.out (by simp [date_Civil.l0])
    | succ k1 =>
      have H := HL.out
      clear HL
      rw [date_Civil.l0] at H
      obtain ⟨t1, ht1, H⟩ := Option.bind_eq_some_iff.mp H
      have HT1 := Aside0.mk ht1
      clear ht1
      go_wp2_with fail
      refine (date_begin.calls y t1 _ HT1.out).mono ?_
      rintro e w4 ⟨rfl, hw⟩
      have HB4 := Aside0.mk (below_step HB.out hw.below)
      clear hw HB
      by_cases c3 : t1 > d
      · rw [if_pos c3] at H
        have H' := Aside0.mk H
        clear H
        go_wp2_with fail
        go_roundg k1
        case measure => have := HK.out; omega
        case rel => exact ⟨_, rfl, H', ⟨by have := HK.out; omega⟩, HB4⟩
      · rw [if_neg c3] at H
        have H' := Aside0.mk H
        clear H
        go_wp2_with fail
        go_loopg [6] k1 (fun kq v6 w' => ∃ y : Int, v6 = .int .i64 y ∧ Aside0 (date_Civil.l1 kq d y = some (r1, r2, r3, r4)) ∧ Aside0 (kq ≤ k1) ∧ Aside0 (Below w.heap.size w w'))
        case atStart => exact ⟨_, rfl, H', ⟨Nat.le_refl _⟩, HB4⟩
        case round =>
          clear H' HB4
          obtain ⟨y2, rfl, HL, HK2, HB⟩ := hrel
          cases gk with
          | zero => exact absurd HL.out (by simp [date_Civil.l1])
          | succ k2 =>
            have H := HL.out
            clear HL
            rw [date_Civil.l1] at H
            obtain ⟨t2, ht2, H⟩ := Option.bind_eq_some_iff.mp H
            have HT2 := Aside0.mk ht2
            clear ht2
            go_wp2_with fail
            refine (date_begin.calls (wrap64 (y2 + 1)) t2 _ HT2.out).mono ?_
            rintro e w5 ⟨rfl, hw⟩
            have HB5 := Aside0.mk (below_step HB.out hw.below)
            clear hw HB
            by_cases c4 : t2 ≤ d
            · rw [if_pos c4] at H
              have H' := Aside0.mk H
              clear H
              go_wp2_with fail
              go_roundg k2
              case measure => have := HK2.out; omega
              case rel => exact ⟨_, rfl, H', ⟨by have := HK2.out; omega⟩, HB5⟩
            · rw [if_neg c4] at H
              obtain ⟨t3, ht3, H⟩ := Option.bind_eq_some_iff.mp H
              have HT3 := Aside0.mk ht3
              obtain ⟨l, hl, H⟩ := Option.bind_eq_some_iff.mp H
              have HL2 := Aside0.mk hl
              have H' := Aside0.mk H
              clear H hl ht3
              go_wp2_with fail
              refine (date_begin.calls y2 t3 _ HT3.out).mono ?_
              rintro e w6 ⟨rfl, hw⟩
              have HB6 := Aside0.mk (below_step HB5.out hw.below)
              clear hw HB5
              go_wp2_with fail
              refine (date_ahead.calls y2 l _ HL2.out).mono ?_
              rintro e w7 ⟨rfl, hw⟩
              have HB7 := Aside0.mk (below_step HB6.out hw)
              clear hw HB6
              obtain ⟨l0, l1, l2, l3, l4, l5, l6, l7, l8, l9, l10, l11, l12, rfl⟩ := date_ahead.shape HL2.out
              have HA0 := Aside0.mk (Blk.At.new w7 #[.int .i64 l0, .int .i64 l1, .int .i64 l2, .int .i64 l3, .int .i64 l4, .int .i64 l5, .int .i64 l6, .int .i64 l7, .int .i64 l8, .int .i64 l9, .int .i64 l10, .int .i64 l11, .int .i64 l12] 50)
              have HB8 := Aside0.mk (below_alloc HB7.out (.cells #[.int .i64 l0, .int .i64 l1, .int .i64 l2, .int .i64 l3, .int .i64 l4, .int .i64 l5, .int .i64 l6, .int .i64 l7, .int .i64 l8, .int .i64 l9, .int .i64 l10, .int .i64 l11, .int .i64 l12] 50))
              have hwb := Aside0.mk HB7.out.size
              clear HB7 HL2
              go_wp2_with fail
              generalize w7.alloc (.cells #[.int .i64 l0, .int .i64 l1, .int .i64 l2, .int .i64 l3, .int .i64 l4, .int .i64 l5, .int .i64 l6, .int .i64 l7, .int .i64 l8, .int .i64 l9, .int .i64 l10, .int .i64 l11, .int .i64 l12] 50) = w8 at HA0 HB8 ⊢
              generalize w7.heap.size = g at HA0 hwb ⊢
              go_loopg [9] k2 (fun kq v9 w' => ∃ m : Int, v9 = .int .i64 m ∧ Aside0 (date_Civil.l2 kq y2 (wrap64 (d - t3)) [l0, l1, l2, l3, l4, l5, l6, l7, l8, l9, l10, l11, l12] m = some (r1, r2, r3, r4)) ∧ Aside0 (kq ≤ k2) ∧ Aside0 (Below w.heap.size w w') ∧ Aside0 (Blk.At g #[.int .i64 l0, .int .i64 l1, .int .i64 l2, .int .i64 l3, .int .i64 l4, .int .i64 l5, .int .i64 l6, .int .i64 l7, .int .i64 l8, .int .i64 l9, .int .i64 l10, .int .i64 l11, .int .i64 l12] 50 w'))
              case atStart => exact ⟨_, rfl, H', ⟨Nat.le_refl _⟩, HB8, HA0⟩
              case round =>
                clear H' HB8 HA0
                obtain ⟨m, rfl, HL, HK3, HB, HA1⟩ := hrel
                cases gk with
                | zero => exact absurd HL.out (by simp [date_Civil.l2])
                | succ k3 =>
                  have H := HL.out
                  clear HL
                  rw [date_Civil.l2] at H
                  by_cases c5 : 1 ≤ m
                  case neg => rw [if_neg c5] at H; cases H
                  by_cases c6 : m < 13
                  case neg => rw [if_pos c5, if_neg c6] at H; cases H
                  rw [if_pos c5, if_pos c6] at H
                  have hm0 : (0 ≤ m) = True := eq_true (by omega)
                  have hm1 : (m < 13) = True := eq_true c6
                  have cm := date_ahead.at HA1.out m (by omega) c6
                  by_cases c7 : rd [l0, l1, l2, l3, l4, l5, l6, l7, l8, l9, l10, l11, l12] m ≤ wrap64 (d - t3)
                  · rw [if_pos c7] at H
                    have H' := Aside0.mk H
                    clear H
                    go_wp2_with fail
                    go_roundg k3
                    case measure => have := HK3.out; omega
                    case rel => exact ⟨_, rfl, H', ⟨by have := HK3.out; omega⟩, HB, HA1⟩
                  · rw [if_neg c7] at H
                    simp only [Option.some.injEq, Prod.mk.injEq] at H
                    obtain ⟨rfl, rfl, rfl, rfl⟩ := H
                    go_wp2_with fail
                    have e1 : wrap64 (m - 1) = m - 1 := by unfold wrap64; omega
                    have hn0 : (0 ≤ m - 1) = True := eq_true (by omega)
                    have hn1 : (m - 1 < 13) = True := eq_true (by omega)
                    have cn := date_ahead.below_one HA1.out m c5 (by omega)
                    clear cm
                    refine start_ (n := 13) (S := fun w' => w'.cell? ⟨g, m.toNat - 1, none⟩ = some (.int .i64 (rd [l0, l1, l2, l3, l4, l5, l6, l7, l8, l9, l10, l11, l12] (m - 1)))) (ds := []) #[false, false, false, false, false, false, false, false, false, false, false, false, false] (by kernel_rfl) rfl rfl (cn) (fun hHeld => ?_)
                    refine pure_ (i := 0) (N := some 50) (v := ?_) (a' := ?_) #[true, false, false, false, false, false, false, false, false, false, false, false, false] rfl rfl (by kernel_rfl) (fun _ _ _ h => h) (Or.inl ⟨by rfl, ?_⟩) ?_ ?_
                    rotate_left
                    · intro w'
                      go_simp
                      with_reducible rfl
                    rotate_left
                    · simp only [Act.put, List.setIfInBounds_toArray, List.set_cons_zero, List.set_cons_succ, i64_w, i32_w]
                      rfl
                    refine pure_ (i := 1) (N := some 51) (v := ?_) (a' := ?_) #[true, true, false, false, false, false, false, false, false, false, false, false, false] rfl rfl (by kernel_rfl) (fun _ _ _ h => h) (Or.inl ⟨by rfl, ?_⟩) ?_ ?_
                    rotate_left
                    · intro w'
                      go_simp
                      with_reducible rfl
                    rotate_left
                    · simp only [Act.put, List.setIfInBounds_toArray, List.set_cons_zero, List.set_cons_succ, i64_w, i32_w]
                      rfl
                    refine pure_ (i := 2) (N := some 52) (v := ?_) (a' := ?_) #[true, true, true, false, false, false, false, false, false, false, false, false, false] rfl rfl (by kernel_rfl) (fun _ _ _ h => h) (Or.inl ⟨by rfl, ?_⟩) ?_ ?_
                    rotate_left
                    · intro w'
                      go_simp
                      with_reducible rfl
                    rotate_left
                    · simp only [Act.put, List.setIfInBounds_toArray, List.set_cons_zero, List.set_cons_succ, i64_w, i32_w]
                      rfl
                    refine pure_ (i := 3) (N := some 53) (v := ?_) (a' := ?_) #[true, true, true, true, false, false, false, false, false, false, false, false, false] rfl rfl (by kernel_rfl) (fun _ _ _ h => h) (Or.inl ⟨by rfl, ?_⟩) ?_ ?_
                    rotate_left
                    · intro w'
                      go_simp
                      with_reducible rfl
                    rotate_left
                    · simp only [Act.put, List.setIfInBounds_toArray, List.set_cons_zero, List.set_cons_succ, i64_w, i32_w]
                      rfl
                    refine pure_ (i := 4) (N := some 54) (v := ?_) (a' := ?_) #[true, true, true, true, true, false, false, false, false, false, false, false, false] rfl rfl (by kernel_rfl) (fun _ _ _ h => h) (Or.inl ⟨by rfl, ?_⟩) ?_ ?_
                    rotate_left
                    · intro w'
                      go_simp
                      with_reducible rfl
                    rotate_left
                    · simp only [Act.put, List.setIfInBounds_toArray, List.set_cons_zero, List.set_cons_succ, i64_w, i32_w]
                      rfl
                    refine pure_ (i := 5) (N := some 55) (v := ?_) (a' := ?_) #[true, true, true, true, true, true, false, false, false, false, false, false, false] rfl rfl (by kernel_rfl) (fun _ _ _ h => h) (Or.inl ⟨by rfl, ?_⟩) ?_ ?_
                    rotate_left
                    · intro w'
                      go_simp
                      with_reducible rfl
                    rotate_left
                    · simp only [Act.put, List.setIfInBounds_toArray, List.set_cons_zero, List.set_cons_succ, i64_w, i32_w]
                      rfl
                    refine pure_ (i := 9) (N := some 2) (v := ?_) (a' := ?_) #[true, true, true, true, true, true, false, false, false, true, false, false, false] rfl rfl (by kernel_rfl) (fun _ _ _ h => h) (Or.inl ⟨by rfl, ?_⟩) ?_ ?_
                    rotate_left
                    · intro w'
                      go_simp
                      with_reducible rfl
                    rotate_left
                    · simp only [Act.put, List.setIfInBounds_toArray, List.set_cons_zero, List.set_cons_succ, i64_w, i32_w]
                      rfl
                    refine pure_ (i := 10) (N := some 3) (v := ?_) (a' := ?_) #[true, true, true, true, true, true, false, false, false, true, true, false, false] rfl rfl (by kernel_rfl) (fun _ _ _ h => h) (Or.inl ⟨by rfl, ?_⟩) ?_ ?_
                    rotate_left
                    · intro w'
                      go_simp
                      with_reducible rfl
                    rotate_left
                    · simp only [Act.put, List.setIfInBounds_toArray, List.set_cons_zero, List.set_cons_succ, i64_w, i32_w]
                      rfl
                    refine take_ (i := 6) (N := some 56) (v := ?_) (a' := ?_) #[true, true, true, true, true, true, true, false, false, true, true, false, false] rfl rfl (by kernel_rfl) (fun _ _ _ h => h) (Or.inl ⟨by rfl, ?_⟩) hHeld ?_ ?_
                    rotate_left
                    · intro w' s0
                      go_simp
                      with_reducible rfl
                    rotate_left
                    · simp only [Act.put, List.setIfInBounds_toArray, List.set_cons_zero, List.set_cons_succ, i64_w, i32_w]
                      rfl
                    refine pure_ (i := 7) (N := some 57) (v := ?_) (a' := ?_) #[true, true, true, true, true, true, true, true, false, true, true, false, false] rfl rfl (by kernel_rfl) (fun _ _ _ h => h) (Or.inl ⟨by rfl, ?_⟩) ?_ ?_
                    rotate_left
                    · intro w'
                      go_simp
                      with_reducible rfl
                    rotate_left
                    · simp only [Act.put, List.setIfInBounds_toArray, List.set_cons_zero, List.set_cons_succ, i64_w, i32_w]
                      rfl
                    refine pure_ (i := 8) (N := some 58) (v := ?_) (a' := ?_) #[true, true, true, true, true, true, true, true, true, true, true, false, false] rfl rfl (by kernel_rfl) (fun _ _ _ h => h) (Or.inl ⟨by rfl, ?_⟩) ?_ ?_
                    rotate_left
                    · intro w'
                      go_simp
                      with_reducible rfl
                    rotate_left
                    · simp only [Act.put, List.setIfInBounds_toArray, List.set_cons_zero, List.set_cons_succ, i64_w, i32_w]
                      rfl
                    refine pure_ (i := 11) (N := some 4) (v := ?_) (a' := ?_) #[true, true, true, true, true, true, true, true, true, true, true, true, false] rfl rfl (by kernel_rfl) (fun _ _ _ h => h) (Or.inl ⟨by rfl, ?_⟩) ?_ ?_
                    rotate_left
                    · intro w'
                      go_simp
                      with_reducible rfl
                    rotate_left
                    · simp only [Act.put, List.setIfInBounds_toArray, List.set_cons_zero, List.set_cons_succ, i64_w, i32_w]
                      rfl
                    refine pure_ (i := 12) (N := some 5) (v := ?_) (a' := ?_) #[true, true, true, true, true, true, true, true, true, true, true, true, true] rfl rfl (by kernel_rfl) (fun _ _ _ h => h) (Or.inl ⟨by rfl, ?_⟩) ?_ ?_
                    rotate_left
                    · intro w'
                      go_simp
                      with_reducible rfl
                    rotate_left
                    · simp only [Act.put, List.setIfInBounds_toArray, List.set_cons_zero, List.set_cons_succ, i64_w, i32_w]
                      rfl
                    refine done_ (by kernel_rfl) ?_
                    go_wp2_with fail
                    refine bodyPost_ret (results_list (rs := [.tmp 2, .tmp 3, .tmp 4, .tmp 5]) rfl (by simp) (.tmp (.tmp (.tmp (.tmp .nil))))) rfl ?_
                    exact ⟨rfl, HB.out.drew⟩


end Go.Proofs.YtfoikdjffemhbaaDoor.Q
