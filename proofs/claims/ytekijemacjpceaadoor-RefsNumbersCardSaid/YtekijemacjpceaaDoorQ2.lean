-- printed by a program of the session's own; Lean checks it
import Derived.Test.YtekijemacjpceaaDoorQ0
import Derived.Test.YtekijemacjpceaaDoorQ1
namespace Go.Proofs.YtekijemacjpceaaDoor.Q
open Go.RowKit Go.Proofs.YtekijemacjpceaaDoorW.PrintWords Go.Proofs.YtekijemacjpceaaDoorW.PrintLast Go.Proofs.YtekijemacjpceaaDoorW.PrintMore
attribute [local go_sem] max2_int min2_int max_two min_two max_three min_three max_four min_four   -- for this text's walks alone
set_option linter.unusedVariables false
set_option linter.unusedSimpArgs false

/-! ### refs_rare: function 25 -/
def refs_rare.f (a0 : ByteArray) : Option (Int × Bool) := if a0.toList = ([101, 103, 114, 97, 118, 101] : List UInt8) then (some (232, true)) else (if a0.toList = ([101, 97, 99, 117, 116, 101] : List UInt8) then (some (233, true)) else (if a0.toList = ([101, 99, 105, 114, 99] : List UInt8) then (some (234, true)) else (if a0.toList = ([105, 97, 99, 117, 116, 101] : List UInt8) then (some (237, true)) else (if a0.toList = ([110, 116, 105, 108, 100, 101] : List UInt8) then (some (241, true)) else (if a0.toList = ([111, 97, 99, 117, 116, 101] : List UInt8) then (some (243, true)) else (if a0.toList = ([111, 117, 109, 108] : List UInt8) then (some (246, true)) else (if a0.toList = ([111, 115, 108, 97, 115, 104] : List UInt8) then (some (248, true)) else (if a0.toList = ([117, 97, 99, 117, 116, 101] : List UInt8) then (some (250, true)) else (if a0.toList = ([117, 117, 109, 108] : List UInt8) then (some (252, true)) else (if a0.toList = ([115, 122, 108, 105, 103] : List UInt8) then (some (223, true)) else (if a0.toList = ([65, 117, 109, 108] : List UInt8) then (some (196, true)) else (if a0.toList = ([79, 117, 109, 108] : List UInt8) then (some (214, true)) else (if a0.toList = ([85, 117, 109, 108] : List UInt8) then (some (220, true)) else (if a0.toList = ([69, 97, 99, 117, 116, 101] : List UInt8) then (some (201, true)) else (if a0.toList = ([110, 100, 97, 115, 104] : List UInt8) then (some (8211, true)) else (if a0.toList = ([109, 100, 97, 115, 104] : List UInt8) then (some (8212, true)) else (if a0.toList = ([108, 115, 113, 117, 111] : List UInt8) then (some (8216, true)) else (if a0.toList = ([114, 115, 113, 117, 111] : List UInt8) then (some (8217, true)) else (if a0.toList = ([108, 100, 113, 117, 111] : List UInt8) then (some (8220, true)) else (if a0.toList = ([114, 100, 113, 117, 111] : List UInt8) then (some (8221, true)) else (if a0.toList = ([98, 117, 108, 108] : List UInt8) then (some (8226, true)) else (if a0.toList = ([104, 101, 108, 108, 105, 112] : List UInt8) then (some (8230, true)) else (if a0.toList = ([101, 117, 114, 111] : List UInt8) then (some (8364, true)) else (if a0.toList = ([116, 114, 97, 100, 101] : List UInt8) then (some (8482, true)) else (if a0.toList = ([108, 97, 114, 114] : List UInt8) then (some (8592, true)) else (if a0.toList = ([114, 97, 114, 114] : List UInt8) then (some (8594, true)) else (if a0.toList = ([104, 101, 97, 114, 116, 115] : List UInt8) then (some (9829, true)) else (some (0, false)))))))))))))))))))))))))))))
set_option maxHeartbeats 8000000 in
set_option maxRecDepth 100000 in
theorem refs_rare.calls (a0 : ByteArray) (r1 : Int) (r2 : Bool) (w : World) (h : refs_rare.f a0 = some (r1, r2)) :
    Calls Tryd.prog 25 #[.string a0] w fun e w' => e = .returned (.tuple #[.int .i32 r1, .bool r2]) ∧ Drawn0 w w' := by
  have H : (if a0.toList = ([101, 103, 114, 97, 118, 101] : List UInt8) then (some (232, true)) else (if a0.toList = ([101, 97, 99, 117, 116, 101] : List UInt8) then (some (233, true)) else (if a0.toList = ([101, 99, 105, 114, 99] : List UInt8) then (some (234, true)) else (if a0.toList = ([105, 97, 99, 117, 116, 101] : List UInt8) then (some (237, true)) else (if a0.toList = ([110, 116, 105, 108, 100, 101] : List UInt8) then (some (241, true)) else (if a0.toList = ([111, 97, 99, 117, 116, 101] : List UInt8) then (some (243, true)) else (if a0.toList = ([111, 117, 109, 108] : List UInt8) then (some (246, true)) else (if a0.toList = ([111, 115, 108, 97, 115, 104] : List UInt8) then (some (248, true)) else (if a0.toList = ([117, 97, 99, 117, 116, 101] : List UInt8) then (some (250, true)) else (if a0.toList = ([117, 117, 109, 108] : List UInt8) then (some (252, true)) else (if a0.toList = ([115, 122, 108, 105, 103] : List UInt8) then (some (223, true)) else (if a0.toList = ([65, 117, 109, 108] : List UInt8) then (some (196, true)) else (if a0.toList = ([79, 117, 109, 108] : List UInt8) then (some (214, true)) else (if a0.toList = ([85, 117, 109, 108] : List UInt8) then (some (220, true)) else (if a0.toList = ([69, 97, 99, 117, 116, 101] : List UInt8) then (some (201, true)) else (if a0.toList = ([110, 100, 97, 115, 104] : List UInt8) then (some (8211, true)) else (if a0.toList = ([109, 100, 97, 115, 104] : List UInt8) then (some (8212, true)) else (if a0.toList = ([108, 115, 113, 117, 111] : List UInt8) then (some (8216, true)) else (if a0.toList = ([114, 115, 113, 117, 111] : List UInt8) then (some (8217, true)) else (if a0.toList = ([108, 100, 113, 117, 111] : List UInt8) then (some (8220, true)) else (if a0.toList = ([114, 100, 113, 117, 111] : List UInt8) then (some (8221, true)) else (if a0.toList = ([98, 117, 108, 108] : List UInt8) then (some (8226, true)) else (if a0.toList = ([104, 101, 108, 108, 105, 112] : List UInt8) then (some (8230, true)) else (if a0.toList = ([101, 117, 114, 111] : List UInt8) then (some (8364, true)) else (if a0.toList = ([116, 114, 97, 100, 101] : List UInt8) then (some (8482, true)) else (if a0.toList = ([108, 97, 114, 114] : List UInt8) then (some (8592, true)) else (if a0.toList = ([114, 97, 114, 114] : List UInt8) then (some (8594, true)) else (if a0.toList = ([104, 101, 97, 114, 116, 115] : List UInt8) then (some (9829, true)) else (some (0, false)))))))))))))))))))))))))))))) = some (r1, r2) := h
  clear h
  by_cases c2 : a0.toList = ([101, 103, 114, 97, 118, 101] : List UInt8)
  · rw [if_pos c2] at H
    have c2b0 : (a0.toList == ([101, 103, 114, 97, 118, 101] : List UInt8)) = true := beq_iff_eq.mpr c2
    have c2b1 : (a0.toList != ([101, 103, 114, 97, 118, 101] : List UInt8)) = false := bne_eq_false_iff_eq.mpr c2
    clear c2
    simp only [Option.some.injEq, Prod.mk.injEq] at H
    obtain ⟨rfl, rfl⟩ := H
    go_enter Tryd.func25, Tryd.ntmps25
    go_wp2
    go_ret2
    exact ⟨by first | rfl | (simp; done) | (simp [*]; done) | (simp; unfold wrap64; omega), by repeat (first | exact Drawn0.refl _ | apply Drawn0.step)⟩
  · rw [if_neg c2] at H
    have c2b0 : (a0.toList == ([101, 103, 114, 97, 118, 101] : List UInt8)) = false := beq_eq_false_iff_ne.mpr c2
    have c2b1 : (a0.toList != ([101, 103, 114, 97, 118, 101] : List UInt8)) = true := bne_iff_ne.mpr c2
    by_cases c3 : a0.toList = ([101, 97, 99, 117, 116, 101] : List UInt8)
    · rw [if_pos c3] at H
      have c3b0 : (a0.toList == ([101, 97, 99, 117, 116, 101] : List UInt8)) = true := beq_iff_eq.mpr c3
      have c3b1 : (a0.toList != ([101, 97, 99, 117, 116, 101] : List UInt8)) = false := bne_eq_false_iff_eq.mpr c3
      clear c3
      simp only [Option.some.injEq, Prod.mk.injEq] at H
      obtain ⟨rfl, rfl⟩ := H
      go_enter Tryd.func25, Tryd.ntmps25
      go_wp2
      go_ret2
      exact ⟨by first | rfl | (simp; done) | (simp [*]; done) | (simp; unfold wrap64; omega), by repeat (first | exact Drawn0.refl _ | apply Drawn0.step)⟩
    · rw [if_neg c3] at H
      have c3b0 : (a0.toList == ([101, 97, 99, 117, 116, 101] : List UInt8)) = false := beq_eq_false_iff_ne.mpr c3
      have c3b1 : (a0.toList != ([101, 97, 99, 117, 116, 101] : List UInt8)) = true := bne_iff_ne.mpr c3
      by_cases c4 : a0.toList = ([101, 99, 105, 114, 99] : List UInt8)
      · rw [if_pos c4] at H
        have c4b0 : (a0.toList == ([101, 99, 105, 114, 99] : List UInt8)) = true := beq_iff_eq.mpr c4
        have c4b1 : (a0.toList != ([101, 99, 105, 114, 99] : List UInt8)) = false := bne_eq_false_iff_eq.mpr c4
        clear c4
        simp only [Option.some.injEq, Prod.mk.injEq] at H
        obtain ⟨rfl, rfl⟩ := H
        go_enter Tryd.func25, Tryd.ntmps25
        go_wp2
        go_ret2
        exact ⟨by first | rfl | (simp; done) | (simp [*]; done) | (simp; unfold wrap64; omega), by repeat (first | exact Drawn0.refl _ | apply Drawn0.step)⟩
      · rw [if_neg c4] at H
        have c4b0 : (a0.toList == ([101, 99, 105, 114, 99] : List UInt8)) = false := beq_eq_false_iff_ne.mpr c4
        have c4b1 : (a0.toList != ([101, 99, 105, 114, 99] : List UInt8)) = true := bne_iff_ne.mpr c4
        by_cases c5 : a0.toList = ([105, 97, 99, 117, 116, 101] : List UInt8)
        · rw [if_pos c5] at H
          have c5b0 : (a0.toList == ([105, 97, 99, 117, 116, 101] : List UInt8)) = true := beq_iff_eq.mpr c5
          have c5b1 : (a0.toList != ([105, 97, 99, 117, 116, 101] : List UInt8)) = false := bne_eq_false_iff_eq.mpr c5
          clear c5
          simp only [Option.some.injEq, Prod.mk.injEq] at H
          obtain ⟨rfl, rfl⟩ := H
          go_enter Tryd.func25, Tryd.ntmps25
          go_wp2
          go_ret2
          exact ⟨by first | rfl | (simp; done) | (simp [*]; done) | (simp; unfold wrap64; omega), by repeat (first | exact Drawn0.refl _ | apply Drawn0.step)⟩
        · rw [if_neg c5] at H
          have c5b0 : (a0.toList == ([105, 97, 99, 117, 116, 101] : List UInt8)) = false := beq_eq_false_iff_ne.mpr c5
          have c5b1 : (a0.toList != ([105, 97, 99, 117, 116, 101] : List UInt8)) = true := bne_iff_ne.mpr c5
          by_cases c6 : a0.toList = ([110, 116, 105, 108, 100, 101] : List UInt8)
          · rw [if_pos c6] at H
            have c6b0 : (a0.toList == ([110, 116, 105, 108, 100, 101] : List UInt8)) = true := beq_iff_eq.mpr c6
            have c6b1 : (a0.toList != ([110, 116, 105, 108, 100, 101] : List UInt8)) = false := bne_eq_false_iff_eq.mpr c6
            clear c6
            simp only [Option.some.injEq, Prod.mk.injEq] at H
            obtain ⟨rfl, rfl⟩ := H
            go_enter Tryd.func25, Tryd.ntmps25
            go_wp2
            go_ret2
            exact ⟨by first | rfl | (simp; done) | (simp [*]; done) | (simp; unfold wrap64; omega), by repeat (first | exact Drawn0.refl _ | apply Drawn0.step)⟩
          · rw [if_neg c6] at H
            have c6b0 : (a0.toList == ([110, 116, 105, 108, 100, 101] : List UInt8)) = false := beq_eq_false_iff_ne.mpr c6
            have c6b1 : (a0.toList != ([110, 116, 105, 108, 100, 101] : List UInt8)) = true := bne_iff_ne.mpr c6
            by_cases c7 : a0.toList = ([111, 97, 99, 117, 116, 101] : List UInt8)
            · rw [if_pos c7] at H
              have c7b0 : (a0.toList == ([111, 97, 99, 117, 116, 101] : List UInt8)) = true := beq_iff_eq.mpr c7
              have c7b1 : (a0.toList != ([111, 97, 99, 117, 116, 101] : List UInt8)) = false := bne_eq_false_iff_eq.mpr c7
              clear c7
              simp only [Option.some.injEq, Prod.mk.injEq] at H
              obtain ⟨rfl, rfl⟩ := H
              go_enter Tryd.func25, Tryd.ntmps25
              go_wp2
              go_ret2
              exact ⟨by first | rfl | (simp; done) | (simp [*]; done) | (simp; unfold wrap64; omega), by repeat (first | exact Drawn0.refl _ | apply Drawn0.step)⟩
            · rw [if_neg c7] at H
              have c7b0 : (a0.toList == ([111, 97, 99, 117, 116, 101] : List UInt8)) = false := beq_eq_false_iff_ne.mpr c7
              have c7b1 : (a0.toList != ([111, 97, 99, 117, 116, 101] : List UInt8)) = true := bne_iff_ne.mpr c7
              by_cases c8 : a0.toList = ([111, 117, 109, 108] : List UInt8)
              · rw [if_pos c8] at H
                have c8b0 : (a0.toList == ([111, 117, 109, 108] : List UInt8)) = true := beq_iff_eq.mpr c8
                have c8b1 : (a0.toList != ([111, 117, 109, 108] : List UInt8)) = false := bne_eq_false_iff_eq.mpr c8
                clear c8
                simp only [Option.some.injEq, Prod.mk.injEq] at H
                obtain ⟨rfl, rfl⟩ := H
                go_enter Tryd.func25, Tryd.ntmps25
                go_wp2
                go_ret2
                exact ⟨by first | rfl | (simp; done) | (simp [*]; done) | (simp; unfold wrap64; omega), by repeat (first | exact Drawn0.refl _ | apply Drawn0.step)⟩
              · rw [if_neg c8] at H
                have c8b0 : (a0.toList == ([111, 117, 109, 108] : List UInt8)) = false := beq_eq_false_iff_ne.mpr c8
                have c8b1 : (a0.toList != ([111, 117, 109, 108] : List UInt8)) = true := bne_iff_ne.mpr c8
                by_cases c9 : a0.toList = ([111, 115, 108, 97, 115, 104] : List UInt8)
                · rw [if_pos c9] at H
                  have c9b0 : (a0.toList == ([111, 115, 108, 97, 115, 104] : List UInt8)) = true := beq_iff_eq.mpr c9
                  have c9b1 : (a0.toList != ([111, 115, 108, 97, 115, 104] : List UInt8)) = false := bne_eq_false_iff_eq.mpr c9
                  clear c9
                  simp only [Option.some.injEq, Prod.mk.injEq] at H
                  obtain ⟨rfl, rfl⟩ := H
                  go_enter Tryd.func25, Tryd.ntmps25
                  go_wp2
                  go_ret2
                  exact ⟨by first | rfl | (simp; done) | (simp [*]; done) | (simp; unfold wrap64; omega), by repeat (first | exact Drawn0.refl _ | apply Drawn0.step)⟩
                · rw [if_neg c9] at H
                  have c9b0 : (a0.toList == ([111, 115, 108, 97, 115, 104] : List UInt8)) = false := beq_eq_false_iff_ne.mpr c9
                  have c9b1 : (a0.toList != ([111, 115, 108, 97, 115, 104] : List UInt8)) = true := bne_iff_ne.mpr c9
                  by_cases c10 : a0.toList = ([117, 97, 99, 117, 116, 101] : List UInt8)
                  · rw [if_pos c10] at H
                    have c10b0 : (a0.toList == ([117, 97, 99, 117, 116, 101] : List UInt8)) = true := beq_iff_eq.mpr c10
                    have c10b1 : (a0.toList != ([117, 97, 99, 117, 116, 101] : List UInt8)) = false := bne_eq_false_iff_eq.mpr c10
                    clear c10
                    simp only [Option.some.injEq, Prod.mk.injEq] at H
                    obtain ⟨rfl, rfl⟩ := H
                    go_enter Tryd.func25, Tryd.ntmps25
                    go_wp2
                    go_ret2
                    exact ⟨by first | rfl | (simp; done) | (simp [*]; done) | (simp; unfold wrap64; omega), by repeat (first | exact Drawn0.refl _ | apply Drawn0.step)⟩
                  · rw [if_neg c10] at H
                    have c10b0 : (a0.toList == ([117, 97, 99, 117, 116, 101] : List UInt8)) = false := beq_eq_false_iff_ne.mpr c10
                    have c10b1 : (a0.toList != ([117, 97, 99, 117, 116, 101] : List UInt8)) = true := bne_iff_ne.mpr c10
                    by_cases c11 : a0.toList = ([117, 117, 109, 108] : List UInt8)
                    · rw [if_pos c11] at H
                      have c11b0 : (a0.toList == ([117, 117, 109, 108] : List UInt8)) = true := beq_iff_eq.mpr c11
                      have c11b1 : (a0.toList != ([117, 117, 109, 108] : List UInt8)) = false := bne_eq_false_iff_eq.mpr c11
                      clear c11
                      simp only [Option.some.injEq, Prod.mk.injEq] at H
                      obtain ⟨rfl, rfl⟩ := H
                      go_enter Tryd.func25, Tryd.ntmps25
                      go_wp2
                      go_ret2
                      exact ⟨by first | rfl | (simp; done) | (simp [*]; done) | (simp; unfold wrap64; omega), by repeat (first | exact Drawn0.refl _ | apply Drawn0.step)⟩
                    · rw [if_neg c11] at H
                      have c11b0 : (a0.toList == ([117, 117, 109, 108] : List UInt8)) = false := beq_eq_false_iff_ne.mpr c11
                      have c11b1 : (a0.toList != ([117, 117, 109, 108] : List UInt8)) = true := bne_iff_ne.mpr c11
                      by_cases c12 : a0.toList = ([115, 122, 108, 105, 103] : List UInt8)
                      · rw [if_pos c12] at H
                        have c12b0 : (a0.toList == ([115, 122, 108, 105, 103] : List UInt8)) = true := beq_iff_eq.mpr c12
                        have c12b1 : (a0.toList != ([115, 122, 108, 105, 103] : List UInt8)) = false := bne_eq_false_iff_eq.mpr c12
                        clear c12
                        simp only [Option.some.injEq, Prod.mk.injEq] at H
                        obtain ⟨rfl, rfl⟩ := H
                        go_enter Tryd.func25, Tryd.ntmps25
                        go_wp2
                        go_ret2
                        exact ⟨by first | rfl | (simp; done) | (simp [*]; done) | (simp; unfold wrap64; omega), by repeat (first | exact Drawn0.refl _ | apply Drawn0.step)⟩
                      · rw [if_neg c12] at H
                        have c12b0 : (a0.toList == ([115, 122, 108, 105, 103] : List UInt8)) = false := beq_eq_false_iff_ne.mpr c12
                        have c12b1 : (a0.toList != ([115, 122, 108, 105, 103] : List UInt8)) = true := bne_iff_ne.mpr c12
                        by_cases c13 : a0.toList = ([65, 117, 109, 108] : List UInt8)
                        · rw [if_pos c13] at H
                          have c13b0 : (a0.toList == ([65, 117, 109, 108] : List UInt8)) = true := beq_iff_eq.mpr c13
                          have c13b1 : (a0.toList != ([65, 117, 109, 108] : List UInt8)) = false := bne_eq_false_iff_eq.mpr c13
                          clear c13
                          simp only [Option.some.injEq, Prod.mk.injEq] at H
                          obtain ⟨rfl, rfl⟩ := H
                          go_enter Tryd.func25, Tryd.ntmps25
                          go_wp2
                          go_ret2
                          exact ⟨by first | rfl | (simp; done) | (simp [*]; done) | (simp; unfold wrap64; omega), by repeat (first | exact Drawn0.refl _ | apply Drawn0.step)⟩
                        · rw [if_neg c13] at H
                          have c13b0 : (a0.toList == ([65, 117, 109, 108] : List UInt8)) = false := beq_eq_false_iff_ne.mpr c13
                          have c13b1 : (a0.toList != ([65, 117, 109, 108] : List UInt8)) = true := bne_iff_ne.mpr c13
                          by_cases c14 : a0.toList = ([79, 117, 109, 108] : List UInt8)
                          · rw [if_pos c14] at H
                            have c14b0 : (a0.toList == ([79, 117, 109, 108] : List UInt8)) = true := beq_iff_eq.mpr c14
                            have c14b1 : (a0.toList != ([79, 117, 109, 108] : List UInt8)) = false := bne_eq_false_iff_eq.mpr c14
                            clear c14
                            simp only [Option.some.injEq, Prod.mk.injEq] at H
                            obtain ⟨rfl, rfl⟩ := H
                            go_enter Tryd.func25, Tryd.ntmps25
                            go_wp2
                            go_ret2
                            exact ⟨by first | rfl | (simp; done) | (simp [*]; done) | (simp; unfold wrap64; omega), by repeat (first | exact Drawn0.refl _ | apply Drawn0.step)⟩
                          · rw [if_neg c14] at H
                            have c14b0 : (a0.toList == ([79, 117, 109, 108] : List UInt8)) = false := beq_eq_false_iff_ne.mpr c14
                            have c14b1 : (a0.toList != ([79, 117, 109, 108] : List UInt8)) = true := bne_iff_ne.mpr c14
                            by_cases c15 : a0.toList = ([85, 117, 109, 108] : List UInt8)
                            · rw [if_pos c15] at H
                              have c15b0 : (a0.toList == ([85, 117, 109, 108] : List UInt8)) = true := beq_iff_eq.mpr c15
                              have c15b1 : (a0.toList != ([85, 117, 109, 108] : List UInt8)) = false := bne_eq_false_iff_eq.mpr c15
                              clear c15
                              simp only [Option.some.injEq, Prod.mk.injEq] at H
                              obtain ⟨rfl, rfl⟩ := H
                              go_enter Tryd.func25, Tryd.ntmps25
                              go_wp2
                              go_ret2
                              exact ⟨by first | rfl | (simp; done) | (simp [*]; done) | (simp; unfold wrap64; omega), by repeat (first | exact Drawn0.refl _ | apply Drawn0.step)⟩
                            · rw [if_neg c15] at H
                              have c15b0 : (a0.toList == ([85, 117, 109, 108] : List UInt8)) = false := beq_eq_false_iff_ne.mpr c15
                              have c15b1 : (a0.toList != ([85, 117, 109, 108] : List UInt8)) = true := bne_iff_ne.mpr c15
                              by_cases c16 : a0.toList = ([69, 97, 99, 117, 116, 101] : List UInt8)
                              · rw [if_pos c16] at H
                                have c16b0 : (a0.toList == ([69, 97, 99, 117, 116, 101] : List UInt8)) = true := beq_iff_eq.mpr c16
                                have c16b1 : (a0.toList != ([69, 97, 99, 117, 116, 101] : List UInt8)) = false := bne_eq_false_iff_eq.mpr c16
                                clear c16
                                simp only [Option.some.injEq, Prod.mk.injEq] at H
                                obtain ⟨rfl, rfl⟩ := H
                                go_enter Tryd.func25, Tryd.ntmps25
                                go_wp2
                                go_ret2
                                exact ⟨by first | rfl | (simp; done) | (simp [*]; done) | (simp; unfold wrap64; omega), by repeat (first | exact Drawn0.refl _ | apply Drawn0.step)⟩
                              · rw [if_neg c16] at H
                                have c16b0 : (a0.toList == ([69, 97, 99, 117, 116, 101] : List UInt8)) = false := beq_eq_false_iff_ne.mpr c16
                                have c16b1 : (a0.toList != ([69, 97, 99, 117, 116, 101] : List UInt8)) = true := bne_iff_ne.mpr c16
                                by_cases c17 : a0.toList = ([110, 100, 97, 115, 104] : List UInt8)
                                · rw [if_pos c17] at H
                                  have c17b0 : (a0.toList == ([110, 100, 97, 115, 104] : List UInt8)) = true := beq_iff_eq.mpr c17
                                  have c17b1 : (a0.toList != ([110, 100, 97, 115, 104] : List UInt8)) = false := bne_eq_false_iff_eq.mpr c17
                                  clear c17
                                  simp only [Option.some.injEq, Prod.mk.injEq] at H
                                  obtain ⟨rfl, rfl⟩ := H
                                  go_enter Tryd.func25, Tryd.ntmps25
                                  go_wp2
                                  go_ret2
                                  exact ⟨by first | rfl | (simp; done) | (simp [*]; done) | (simp; unfold wrap64; omega), by repeat (first | exact Drawn0.refl _ | apply Drawn0.step)⟩
                                · rw [if_neg c17] at H
                                  have c17b0 : (a0.toList == ([110, 100, 97, 115, 104] : List UInt8)) = false := beq_eq_false_iff_ne.mpr c17
                                  have c17b1 : (a0.toList != ([110, 100, 97, 115, 104] : List UInt8)) = true := bne_iff_ne.mpr c17
                                  by_cases c18 : a0.toList = ([109, 100, 97, 115, 104] : List UInt8)
                                  · rw [if_pos c18] at H
                                    have c18b0 : (a0.toList == ([109, 100, 97, 115, 104] : List UInt8)) = true := beq_iff_eq.mpr c18
                                    have c18b1 : (a0.toList != ([109, 100, 97, 115, 104] : List UInt8)) = false := bne_eq_false_iff_eq.mpr c18
                                    clear c18
                                    simp only [Option.some.injEq, Prod.mk.injEq] at H
                                    obtain ⟨rfl, rfl⟩ := H
                                    go_enter Tryd.func25, Tryd.ntmps25
                                    go_wp2
                                    go_ret2
                                    exact ⟨by first | rfl | (simp; done) | (simp [*]; done) | (simp; unfold wrap64; omega), by repeat (first | exact Drawn0.refl _ | apply Drawn0.step)⟩
                                  · rw [if_neg c18] at H
                                    have c18b0 : (a0.toList == ([109, 100, 97, 115, 104] : List UInt8)) = false := beq_eq_false_iff_ne.mpr c18
                                    have c18b1 : (a0.toList != ([109, 100, 97, 115, 104] : List UInt8)) = true := bne_iff_ne.mpr c18
                                    by_cases c19 : a0.toList = ([108, 115, 113, 117, 111] : List UInt8)
                                    · rw [if_pos c19] at H
                                      have c19b0 : (a0.toList == ([108, 115, 113, 117, 111] : List UInt8)) = true := beq_iff_eq.mpr c19
                                      have c19b1 : (a0.toList != ([108, 115, 113, 117, 111] : List UInt8)) = false := bne_eq_false_iff_eq.mpr c19
                                      clear c19
                                      simp only [Option.some.injEq, Prod.mk.injEq] at H
                                      obtain ⟨rfl, rfl⟩ := H
                                      go_enter Tryd.func25, Tryd.ntmps25
                                      go_wp2
                                      go_ret2
                                      exact ⟨by first | rfl | (simp; done) | (simp [*]; done) | (simp; unfold wrap64; omega), by repeat (first | exact Drawn0.refl _ | apply Drawn0.step)⟩
                                    · rw [if_neg c19] at H
                                      have c19b0 : (a0.toList == ([108, 115, 113, 117, 111] : List UInt8)) = false := beq_eq_false_iff_ne.mpr c19
                                      have c19b1 : (a0.toList != ([108, 115, 113, 117, 111] : List UInt8)) = true := bne_iff_ne.mpr c19
                                      by_cases c20 : a0.toList = ([114, 115, 113, 117, 111] : List UInt8)
                                      · rw [if_pos c20] at H
                                        have c20b0 : (a0.toList == ([114, 115, 113, 117, 111] : List UInt8)) = true := beq_iff_eq.mpr c20
                                        have c20b1 : (a0.toList != ([114, 115, 113, 117, 111] : List UInt8)) = false := bne_eq_false_iff_eq.mpr c20
                                        clear c20
                                        simp only [Option.some.injEq, Prod.mk.injEq] at H
                                        obtain ⟨rfl, rfl⟩ := H
                                        go_enter Tryd.func25, Tryd.ntmps25
                                        go_wp2
                                        go_ret2
                                        exact ⟨by first | rfl | (simp; done) | (simp [*]; done) | (simp; unfold wrap64; omega), by repeat (first | exact Drawn0.refl _ | apply Drawn0.step)⟩
                                      · rw [if_neg c20] at H
                                        have c20b0 : (a0.toList == ([114, 115, 113, 117, 111] : List UInt8)) = false := beq_eq_false_iff_ne.mpr c20
                                        have c20b1 : (a0.toList != ([114, 115, 113, 117, 111] : List UInt8)) = true := bne_iff_ne.mpr c20
                                        by_cases c21 : a0.toList = ([108, 100, 113, 117, 111] : List UInt8)
                                        · rw [if_pos c21] at H
                                          have c21b0 : (a0.toList == ([108, 100, 113, 117, 111] : List UInt8)) = true := beq_iff_eq.mpr c21
                                          have c21b1 : (a0.toList != ([108, 100, 113, 117, 111] : List UInt8)) = false := bne_eq_false_iff_eq.mpr c21
                                          clear c21
                                          simp only [Option.some.injEq, Prod.mk.injEq] at H
                                          obtain ⟨rfl, rfl⟩ := H
                                          go_enter Tryd.func25, Tryd.ntmps25
                                          go_wp2
                                          go_ret2
                                          exact ⟨by first | rfl | (simp; done) | (simp [*]; done) | (simp; unfold wrap64; omega), by repeat (first | exact Drawn0.refl _ | apply Drawn0.step)⟩
                                        · rw [if_neg c21] at H
                                          have c21b0 : (a0.toList == ([108, 100, 113, 117, 111] : List UInt8)) = false := beq_eq_false_iff_ne.mpr c21
                                          have c21b1 : (a0.toList != ([108, 100, 113, 117, 111] : List UInt8)) = true := bne_iff_ne.mpr c21
                                          by_cases c22 : a0.toList = ([114, 100, 113, 117, 111] : List UInt8)
                                          · rw [if_pos c22] at H
                                            have c22b0 : (a0.toList == ([114, 100, 113, 117, 111] : List UInt8)) = true := beq_iff_eq.mpr c22
                                            have c22b1 : (a0.toList != ([114, 100, 113, 117, 111] : List UInt8)) = false := bne_eq_false_iff_eq.mpr c22
                                            clear c22
                                            simp only [Option.some.injEq, Prod.mk.injEq] at H
                                            obtain ⟨rfl, rfl⟩ := H
                                            go_enter Tryd.func25, Tryd.ntmps25
                                            go_wp2
                                            go_ret2
                                            exact ⟨by first | rfl | (simp; done) | (simp [*]; done) | (simp; unfold wrap64; omega), by repeat (first | exact Drawn0.refl _ | apply Drawn0.step)⟩
                                          · rw [if_neg c22] at H
                                            have c22b0 : (a0.toList == ([114, 100, 113, 117, 111] : List UInt8)) = false := beq_eq_false_iff_ne.mpr c22
                                            have c22b1 : (a0.toList != ([114, 100, 113, 117, 111] : List UInt8)) = true := bne_iff_ne.mpr c22
                                            by_cases c23 : a0.toList = ([98, 117, 108, 108] : List UInt8)
                                            · rw [if_pos c23] at H
                                              have c23b0 : (a0.toList == ([98, 117, 108, 108] : List UInt8)) = true := beq_iff_eq.mpr c23
                                              have c23b1 : (a0.toList != ([98, 117, 108, 108] : List UInt8)) = false := bne_eq_false_iff_eq.mpr c23
                                              clear c23
                                              simp only [Option.some.injEq, Prod.mk.injEq] at H
                                              obtain ⟨rfl, rfl⟩ := H
                                              go_enter Tryd.func25, Tryd.ntmps25
                                              go_wp2
                                              go_ret2
                                              exact ⟨by first | rfl | (simp; done) | (simp [*]; done) | (simp; unfold wrap64; omega), by repeat (first | exact Drawn0.refl _ | apply Drawn0.step)⟩
                                            · rw [if_neg c23] at H
                                              have c23b0 : (a0.toList == ([98, 117, 108, 108] : List UInt8)) = false := beq_eq_false_iff_ne.mpr c23
                                              have c23b1 : (a0.toList != ([98, 117, 108, 108] : List UInt8)) = true := bne_iff_ne.mpr c23
                                              by_cases c24 : a0.toList = ([104, 101, 108, 108, 105, 112] : List UInt8)
                                              · rw [if_pos c24] at H
                                                have c24b0 : (a0.toList == ([104, 101, 108, 108, 105, 112] : List UInt8)) = true := beq_iff_eq.mpr c24
                                                have c24b1 : (a0.toList != ([104, 101, 108, 108, 105, 112] : List UInt8)) = false := bne_eq_false_iff_eq.mpr c24
                                                clear c24
                                                simp only [Option.some.injEq, Prod.mk.injEq] at H
                                                obtain ⟨rfl, rfl⟩ := H
                                                go_enter Tryd.func25, Tryd.ntmps25
                                                go_wp2
                                                go_ret2
                                                exact ⟨by first | rfl | (simp; done) | (simp [*]; done) | (simp; unfold wrap64; omega), by repeat (first | exact Drawn0.refl _ | apply Drawn0.step)⟩
                                              · rw [if_neg c24] at H
                                                have c24b0 : (a0.toList == ([104, 101, 108, 108, 105, 112] : List UInt8)) = false := beq_eq_false_iff_ne.mpr c24
                                                have c24b1 : (a0.toList != ([104, 101, 108, 108, 105, 112] : List UInt8)) = true := bne_iff_ne.mpr c24
                                                by_cases c25 : a0.toList = ([101, 117, 114, 111] : List UInt8)
                                                · rw [if_pos c25] at H
                                                  have c25b0 : (a0.toList == ([101, 117, 114, 111] : List UInt8)) = true := beq_iff_eq.mpr c25
                                                  have c25b1 : (a0.toList != ([101, 117, 114, 111] : List UInt8)) = false := bne_eq_false_iff_eq.mpr c25
                                                  clear c25
                                                  simp only [Option.some.injEq, Prod.mk.injEq] at H
                                                  obtain ⟨rfl, rfl⟩ := H
                                                  go_enter Tryd.func25, Tryd.ntmps25
                                                  go_wp2
                                                  go_ret2
                                                  exact ⟨by first | rfl | (simp; done) | (simp [*]; done) | (simp; unfold wrap64; omega), by repeat (first | exact Drawn0.refl _ | apply Drawn0.step)⟩
                                                · rw [if_neg c25] at H
                                                  have c25b0 : (a0.toList == ([101, 117, 114, 111] : List UInt8)) = false := beq_eq_false_iff_ne.mpr c25
                                                  have c25b1 : (a0.toList != ([101, 117, 114, 111] : List UInt8)) = true := bne_iff_ne.mpr c25
                                                  by_cases c26 : a0.toList = ([116, 114, 97, 100, 101] : List UInt8)
                                                  · rw [if_pos c26] at H
                                                    have c26b0 : (a0.toList == ([116, 114, 97, 100, 101] : List UInt8)) = true := beq_iff_eq.mpr c26
                                                    have c26b1 : (a0.toList != ([116, 114, 97, 100, 101] : List UInt8)) = false := bne_eq_false_iff_eq.mpr c26
                                                    clear c26
                                                    simp only [Option.some.injEq, Prod.mk.injEq] at H
                                                    obtain ⟨rfl, rfl⟩ := H
                                                    go_enter Tryd.func25, Tryd.ntmps25
                                                    go_wp2
                                                    go_ret2
                                                    exact ⟨by first | rfl | (simp; done) | (simp [*]; done) | (simp; unfold wrap64; omega), by repeat (first | exact Drawn0.refl _ | apply Drawn0.step)⟩
                                                  · rw [if_neg c26] at H
                                                    have c26b0 : (a0.toList == ([116, 114, 97, 100, 101] : List UInt8)) = false := beq_eq_false_iff_ne.mpr c26
                                                    have c26b1 : (a0.toList != ([116, 114, 97, 100, 101] : List UInt8)) = true := bne_iff_ne.mpr c26
                                                    by_cases c27 : a0.toList = ([108, 97, 114, 114] : List UInt8)
                                                    · rw [if_pos c27] at H
                                                      have c27b0 : (a0.toList == ([108, 97, 114, 114] : List UInt8)) = true := beq_iff_eq.mpr c27
                                                      have c27b1 : (a0.toList != ([108, 97, 114, 114] : List UInt8)) = false := bne_eq_false_iff_eq.mpr c27
                                                      clear c27
                                                      simp only [Option.some.injEq, Prod.mk.injEq] at H
                                                      obtain ⟨rfl, rfl⟩ := H
                                                      go_enter Tryd.func25, Tryd.ntmps25
                                                      go_wp2
                                                      go_ret2
                                                      exact ⟨by first | rfl | (simp; done) | (simp [*]; done) | (simp; unfold wrap64; omega), by repeat (first | exact Drawn0.refl _ | apply Drawn0.step)⟩
                                                    · rw [if_neg c27] at H
                                                      have c27b0 : (a0.toList == ([108, 97, 114, 114] : List UInt8)) = false := beq_eq_false_iff_ne.mpr c27
                                                      have c27b1 : (a0.toList != ([108, 97, 114, 114] : List UInt8)) = true := bne_iff_ne.mpr c27
                                                      by_cases c28 : a0.toList = ([114, 97, 114, 114] : List UInt8)
                                                      · rw [if_pos c28] at H
                                                        have c28b0 : (a0.toList == ([114, 97, 114, 114] : List UInt8)) = true := beq_iff_eq.mpr c28
                                                        have c28b1 : (a0.toList != ([114, 97, 114, 114] : List UInt8)) = false := bne_eq_false_iff_eq.mpr c28
                                                        clear c28
                                                        simp only [Option.some.injEq, Prod.mk.injEq] at H
                                                        obtain ⟨rfl, rfl⟩ := H
                                                        go_enter Tryd.func25, Tryd.ntmps25
                                                        go_wp2
                                                        go_ret2
                                                        exact ⟨by first | rfl | (simp; done) | (simp [*]; done) | (simp; unfold wrap64; omega), by repeat (first | exact Drawn0.refl _ | apply Drawn0.step)⟩
                                                      · rw [if_neg c28] at H
                                                        have c28b0 : (a0.toList == ([114, 97, 114, 114] : List UInt8)) = false := beq_eq_false_iff_ne.mpr c28
                                                        have c28b1 : (a0.toList != ([114, 97, 114, 114] : List UInt8)) = true := bne_iff_ne.mpr c28
                                                        by_cases c29 : a0.toList = ([104, 101, 97, 114, 116, 115] : List UInt8)
                                                        · rw [if_pos c29] at H
                                                          have c29b0 : (a0.toList == ([104, 101, 97, 114, 116, 115] : List UInt8)) = true := beq_iff_eq.mpr c29
                                                          have c29b1 : (a0.toList != ([104, 101, 97, 114, 116, 115] : List UInt8)) = false := bne_eq_false_iff_eq.mpr c29
                                                          clear c29
                                                          simp only [Option.some.injEq, Prod.mk.injEq] at H
                                                          obtain ⟨rfl, rfl⟩ := H
                                                          go_enter Tryd.func25, Tryd.ntmps25
                                                          go_wp2
                                                          go_ret2
                                                          exact ⟨by first | rfl | (simp; done) | (simp [*]; done) | (simp; unfold wrap64; omega), by repeat (first | exact Drawn0.refl _ | apply Drawn0.step)⟩
                                                        · rw [if_neg c29] at H
                                                          have c29b0 : (a0.toList == ([104, 101, 97, 114, 116, 115] : List UInt8)) = false := beq_eq_false_iff_ne.mpr c29
                                                          have c29b1 : (a0.toList != ([104, 101, 97, 114, 116, 115] : List UInt8)) = true := bne_iff_ne.mpr c29
                                                          simp only [Option.some.injEq, Prod.mk.injEq] at H
                                                          obtain ⟨rfl, rfl⟩ := H
                                                          go_enter Tryd.func25, Tryd.ntmps25
                                                          go_wp2
                                                          go_ret2
                                                          exact ⟨by first | rfl | (simp; done) | (simp [*]; done) | (simp; unfold wrap64; omega), by repeat (first | exact Drawn0.refl _ | apply Drawn0.step)⟩

/-! ### refs_Name: function 9 -/
def refs_Name.f (a0 : ByteArray) : Option (Int × Bool) := (refs_common.f a0).bind fun bt101 => (if bt101.2 = true then (some (bt101.1, true)) else ((refs_rare.f a0).bind fun bt103 => (some (bt103.1, bt103.2))))
set_option maxHeartbeats 8000000 in
set_option maxRecDepth 100000 in
theorem refs_Name.calls (a0 : ByteArray) (r1 : Int) (r2 : Bool) (w : World) (h : refs_Name.f a0 = some (r1, r2)) :
    Calls Tryd.prog 9 #[.string a0] w fun e w' => e = .returned (.tuple #[.int .i32 r1, .bool r2]) ∧ Drawn0 w w' := by
  have H : ((refs_common.f a0).bind fun bt101 => (if bt101.2 = true then (some (bt101.1, true)) else ((refs_rare.f a0).bind fun bt103 => (some (bt103.1, bt103.2))))) = some (r1, r2) := h
  clear h
  replace H := Option.bind_eq_some_iff.mp H
  obtain ⟨⟨t101, t102⟩, A20, H⟩ := H
  replace H : (if t102 = true then (some (t101, true)) else ((refs_rare.f a0).bind fun bt103 => (some (bt103.1, bt103.2)))) = some (r1, r2) := H
  have A2 := Aside0.mk A20
  clear A20
  by_cases c3 : t102 = true
  · subst c3
    have H1 : (some (t101, true)) = some (r1, r2) := by rw [if_pos rfl] at H; exact H
    clear H
    have H := H1
    clear H1
    simp only [Option.some.injEq, Prod.mk.injEq] at H
    obtain ⟨rfl, rfl⟩ := H
    go_enter Tryd.func9, Tryd.ntmps9
    go_wp2_with (first | ((with_reducible refine gate_callee (f := 24) rfl ?_); refine goesL_ (some 8) rfl rfl Tryd.func24 (by kernel_rfl) rfl #[.string a0] rfl (by (try simp only [List.map_toArray, List.map_cons, List.map_nil]); first | done | rfl | (simp only [List.length_drop, List.length_take]; rfl)) ?_; (with_reducible refine (refs_common.calls a0 t101 true _ A2.out).mono ?_); rintro e w' ⟨rfl, ⟨nd, rfl⟩⟩; refine ⟨_, rfl, ?_⟩))
    go_ret2
    exact ⟨by first | rfl | (simp; done) | (simp [*]; done) | (simp; unfold wrap64; omega), by repeat (first | exact Drawn0.refl _ | apply Drawn0.step)⟩
  · replace c3 := Bool.eq_false_iff.mpr c3
    subst c3
    have H1 : ((refs_rare.f a0).bind fun bt103 => (some (bt103.1, bt103.2))) = some (r1, r2) := by rw [if_neg (show ¬ (false = true) by decide)] at H; exact H
    clear H
    have H := H1
    clear H1
    replace H := Option.bind_eq_some_iff.mp H
    obtain ⟨⟨t103, t104⟩, A40, H⟩ := H
    replace H : (some (t103, t104)) = some (r1, r2) := H
    have A4 := Aside0.mk A40
    clear A40
    simp only [Option.some.injEq, Prod.mk.injEq] at H
    obtain ⟨rfl, rfl⟩ := H
    go_enter Tryd.func9, Tryd.ntmps9
    go_wp2_with (first | ((with_reducible refine gate_callee (f := 24) rfl ?_); refine goesL_ (some 8) rfl rfl Tryd.func24 (by kernel_rfl) rfl #[.string a0] rfl (by (try simp only [List.map_toArray, List.map_cons, List.map_nil]); first | done | rfl | (simp only [List.length_drop, List.length_take]; rfl)) ?_; (with_reducible refine (refs_common.calls a0 t101 false _ A2.out).mono ?_); rintro e w' ⟨rfl, ⟨nd, rfl⟩⟩; refine ⟨_, rfl, ?_⟩) | ((with_reducible refine gate_callee (f := 25) rfl ?_); refine goesL_ (some 14) rfl rfl Tryd.func25 (by kernel_rfl) rfl #[.string a0] rfl (by (try simp only [List.map_toArray, List.map_cons, List.map_nil]); first | done | rfl | (simp only [List.length_drop, List.length_take]; rfl)) ?_; (with_reducible refine (refs_rare.calls a0 t103 t104 _ A4.out).mono ?_); rintro e w' ⟨rfl, ⟨nd, rfl⟩⟩; refine ⟨_, rfl, ?_⟩))
    go_ret2
    exact ⟨by first | rfl | (simp; done) | (simp [*]; done) | (simp; unfold wrap64; omega), by repeat (first | exact Drawn0.refl _ | apply Drawn0.step)⟩

/-! ### cringleref11_names: function 26 -/
def cringleref11_names.f  : Option ((List (S42))) := some (([(⟨(⟨#[97, 109, 112]⟩ : ByteArray), 38⟩ : S42), (⟨(⟨#[108, 116]⟩ : ByteArray), 60⟩ : S42), (⟨(⟨#[103, 116]⟩ : ByteArray), 62⟩ : S42), (⟨(⟨#[113, 117, 111, 116]⟩ : ByteArray), 34⟩ : S42), (⟨(⟨#[97, 112, 111, 115]⟩ : ByteArray), 39⟩ : S42), (⟨(⟨#[110, 98, 115, 112]⟩ : ByteArray), 160⟩ : S42), (⟨(⟨#[99, 111, 112, 121]⟩ : ByteArray), 169⟩ : S42), (⟨(⟨#[114, 101, 103]⟩ : ByteArray), 174⟩ : S42), (⟨(⟨#[99, 101, 110, 116]⟩ : ByteArray), 162⟩ : S42), (⟨(⟨#[112, 111, 117, 110, 100]⟩ : ByteArray), 163⟩ : S42), (⟨(⟨#[121, 101, 110]⟩ : ByteArray), 165⟩ : S42), (⟨(⟨#[115, 101, 99, 116]⟩ : ByteArray), 167⟩ : S42), (⟨(⟨#[100, 101, 103]⟩ : ByteArray), 176⟩ : S42), (⟨(⟨#[112, 108, 117, 115, 109, 110]⟩ : ByteArray), 177⟩ : S42), (⟨(⟨#[112, 97, 114, 97]⟩ : ByteArray), 182⟩ : S42), (⟨(⟨#[109, 105, 100, 100, 111, 116]⟩ : ByteArray), 183⟩ : S42), (⟨(⟨#[108, 97, 113, 117, 111]⟩ : ByteArray), 171⟩ : S42), (⟨(⟨#[114, 97, 113, 117, 111]⟩ : ByteArray), 187⟩ : S42), (⟨(⟨#[102, 114, 97, 99, 49, 50]⟩ : ByteArray), 189⟩ : S42), (⟨(⟨#[116, 105, 109, 101, 115]⟩ : ByteArray), 215⟩ : S42), (⟨(⟨#[100, 105, 118, 105, 100, 101]⟩ : ByteArray), 247⟩ : S42), (⟨(⟨#[97, 103, 114, 97, 118, 101]⟩ : ByteArray), 224⟩ : S42), (⟨(⟨#[97, 97, 99, 117, 116, 101]⟩ : ByteArray), 225⟩ : S42), (⟨(⟨#[97, 99, 105, 114, 99]⟩ : ByteArray), 226⟩ : S42), (⟨(⟨#[97, 117, 109, 108]⟩ : ByteArray), 228⟩ : S42), (⟨(⟨#[97, 114, 105, 110, 103]⟩ : ByteArray), 229⟩ : S42), (⟨(⟨#[97, 101, 108, 105, 103]⟩ : ByteArray), 230⟩ : S42), (⟨(⟨#[99, 99, 101, 100, 105, 108]⟩ : ByteArray), 231⟩ : S42), (⟨(⟨#[101, 103, 114, 97, 118, 101]⟩ : ByteArray), 232⟩ : S42), (⟨(⟨#[101, 97, 99, 117, 116, 101]⟩ : ByteArray), 233⟩ : S42), (⟨(⟨#[101, 99, 105, 114, 99]⟩ : ByteArray), 234⟩ : S42), (⟨(⟨#[105, 97, 99, 117, 116, 101]⟩ : ByteArray), 237⟩ : S42), (⟨(⟨#[110, 116, 105, 108, 100, 101]⟩ : ByteArray), 241⟩ : S42), (⟨(⟨#[111, 97, 99, 117, 116, 101]⟩ : ByteArray), 243⟩ : S42), (⟨(⟨#[111, 117, 109, 108]⟩ : ByteArray), 246⟩ : S42), (⟨(⟨#[111, 115, 108, 97, 115, 104]⟩ : ByteArray), 248⟩ : S42), (⟨(⟨#[117, 97, 99, 117, 116, 101]⟩ : ByteArray), 250⟩ : S42), (⟨(⟨#[117, 117, 109, 108]⟩ : ByteArray), 252⟩ : S42), (⟨(⟨#[115, 122, 108, 105, 103]⟩ : ByteArray), 223⟩ : S42), (⟨(⟨#[65, 117, 109, 108]⟩ : ByteArray), 196⟩ : S42), (⟨(⟨#[79, 117, 109, 108]⟩ : ByteArray), 214⟩ : S42), (⟨(⟨#[85, 117, 109, 108]⟩ : ByteArray), 220⟩ : S42), (⟨(⟨#[69, 97, 99, 117, 116, 101]⟩ : ByteArray), 201⟩ : S42), (⟨(⟨#[110, 100, 97, 115, 104]⟩ : ByteArray), 8211⟩ : S42), (⟨(⟨#[109, 100, 97, 115, 104]⟩ : ByteArray), 8212⟩ : S42), (⟨(⟨#[108, 115, 113, 117, 111]⟩ : ByteArray), 8216⟩ : S42), (⟨(⟨#[114, 115, 113, 117, 111]⟩ : ByteArray), 8217⟩ : S42), (⟨(⟨#[108, 100, 113, 117, 111]⟩ : ByteArray), 8220⟩ : S42), (⟨(⟨#[114, 100, 113, 117, 111]⟩ : ByteArray), 8221⟩ : S42), (⟨(⟨#[98, 117, 108, 108]⟩ : ByteArray), 8226⟩ : S42), (⟨(⟨#[104, 101, 108, 108, 105, 112]⟩ : ByteArray), 8230⟩ : S42), (⟨(⟨#[101, 117, 114, 111]⟩ : ByteArray), 8364⟩ : S42), (⟨(⟨#[116, 114, 97, 100, 101]⟩ : ByteArray), 8482⟩ : S42), (⟨(⟨#[108, 97, 114, 114]⟩ : ByteArray), 8592⟩ : S42), (⟨(⟨#[114, 97, 114, 114]⟩ : ByteArray), 8594⟩ : S42), (⟨(⟨#[104, 101, 97, 114, 116, 115]⟩ : ByteArray), 9829⟩ : S42)] : List (S42)))
set_option maxHeartbeats 8000000 in
set_option maxRecDepth 100000 in
theorem cringleref11_names.calls  (r : List (S42)) (w : World) (h : cringleref11_names.f  = some r) :
    Calls Tryd.prog 26 #[] w fun e w' => ∃ v0_ : Value, e = .returned (v0_) ∧ Kd.R k42 42 w' w.heap.size (fun _ => True) v0_ r ∧ Below w.heap.size w w' := by
  have hu42 := Tryd.underlying42
  have HB := Aside0.mk (Below.refl w.heap.size w)
  have H : (some (([(⟨(⟨#[97, 109, 112]⟩ : ByteArray), 38⟩ : S42), (⟨(⟨#[108, 116]⟩ : ByteArray), 60⟩ : S42), (⟨(⟨#[103, 116]⟩ : ByteArray), 62⟩ : S42), (⟨(⟨#[113, 117, 111, 116]⟩ : ByteArray), 34⟩ : S42), (⟨(⟨#[97, 112, 111, 115]⟩ : ByteArray), 39⟩ : S42), (⟨(⟨#[110, 98, 115, 112]⟩ : ByteArray), 160⟩ : S42), (⟨(⟨#[99, 111, 112, 121]⟩ : ByteArray), 169⟩ : S42), (⟨(⟨#[114, 101, 103]⟩ : ByteArray), 174⟩ : S42), (⟨(⟨#[99, 101, 110, 116]⟩ : ByteArray), 162⟩ : S42), (⟨(⟨#[112, 111, 117, 110, 100]⟩ : ByteArray), 163⟩ : S42), (⟨(⟨#[121, 101, 110]⟩ : ByteArray), 165⟩ : S42), (⟨(⟨#[115, 101, 99, 116]⟩ : ByteArray), 167⟩ : S42), (⟨(⟨#[100, 101, 103]⟩ : ByteArray), 176⟩ : S42), (⟨(⟨#[112, 108, 117, 115, 109, 110]⟩ : ByteArray), 177⟩ : S42), (⟨(⟨#[112, 97, 114, 97]⟩ : ByteArray), 182⟩ : S42), (⟨(⟨#[109, 105, 100, 100, 111, 116]⟩ : ByteArray), 183⟩ : S42), (⟨(⟨#[108, 97, 113, 117, 111]⟩ : ByteArray), 171⟩ : S42), (⟨(⟨#[114, 97, 113, 117, 111]⟩ : ByteArray), 187⟩ : S42), (⟨(⟨#[102, 114, 97, 99, 49, 50]⟩ : ByteArray), 189⟩ : S42), (⟨(⟨#[116, 105, 109, 101, 115]⟩ : ByteArray), 215⟩ : S42), (⟨(⟨#[100, 105, 118, 105, 100, 101]⟩ : ByteArray), 247⟩ : S42), (⟨(⟨#[97, 103, 114, 97, 118, 101]⟩ : ByteArray), 224⟩ : S42), (⟨(⟨#[97, 97, 99, 117, 116, 101]⟩ : ByteArray), 225⟩ : S42), (⟨(⟨#[97, 99, 105, 114, 99]⟩ : ByteArray), 226⟩ : S42), (⟨(⟨#[97, 117, 109, 108]⟩ : ByteArray), 228⟩ : S42), (⟨(⟨#[97, 114, 105, 110, 103]⟩ : ByteArray), 229⟩ : S42), (⟨(⟨#[97, 101, 108, 105, 103]⟩ : ByteArray), 230⟩ : S42), (⟨(⟨#[99, 99, 101, 100, 105, 108]⟩ : ByteArray), 231⟩ : S42), (⟨(⟨#[101, 103, 114, 97, 118, 101]⟩ : ByteArray), 232⟩ : S42), (⟨(⟨#[101, 97, 99, 117, 116, 101]⟩ : ByteArray), 233⟩ : S42), (⟨(⟨#[101, 99, 105, 114, 99]⟩ : ByteArray), 234⟩ : S42), (⟨(⟨#[105, 97, 99, 117, 116, 101]⟩ : ByteArray), 237⟩ : S42), (⟨(⟨#[110, 116, 105, 108, 100, 101]⟩ : ByteArray), 241⟩ : S42), (⟨(⟨#[111, 97, 99, 117, 116, 101]⟩ : ByteArray), 243⟩ : S42), (⟨(⟨#[111, 117, 109, 108]⟩ : ByteArray), 246⟩ : S42), (⟨(⟨#[111, 115, 108, 97, 115, 104]⟩ : ByteArray), 248⟩ : S42), (⟨(⟨#[117, 97, 99, 117, 116, 101]⟩ : ByteArray), 250⟩ : S42), (⟨(⟨#[117, 117, 109, 108]⟩ : ByteArray), 252⟩ : S42), (⟨(⟨#[115, 122, 108, 105, 103]⟩ : ByteArray), 223⟩ : S42), (⟨(⟨#[65, 117, 109, 108]⟩ : ByteArray), 196⟩ : S42), (⟨(⟨#[79, 117, 109, 108]⟩ : ByteArray), 214⟩ : S42), (⟨(⟨#[85, 117, 109, 108]⟩ : ByteArray), 220⟩ : S42), (⟨(⟨#[69, 97, 99, 117, 116, 101]⟩ : ByteArray), 201⟩ : S42), (⟨(⟨#[110, 100, 97, 115, 104]⟩ : ByteArray), 8211⟩ : S42), (⟨(⟨#[109, 100, 97, 115, 104]⟩ : ByteArray), 8212⟩ : S42), (⟨(⟨#[108, 115, 113, 117, 111]⟩ : ByteArray), 8216⟩ : S42), (⟨(⟨#[114, 115, 113, 117, 111]⟩ : ByteArray), 8217⟩ : S42), (⟨(⟨#[108, 100, 113, 117, 111]⟩ : ByteArray), 8220⟩ : S42), (⟨(⟨#[114, 100, 113, 117, 111]⟩ : ByteArray), 8221⟩ : S42), (⟨(⟨#[98, 117, 108, 108]⟩ : ByteArray), 8226⟩ : S42), (⟨(⟨#[104, 101, 108, 108, 105, 112]⟩ : ByteArray), 8230⟩ : S42), (⟨(⟨#[101, 117, 114, 111]⟩ : ByteArray), 8364⟩ : S42), (⟨(⟨#[116, 114, 97, 100, 101]⟩ : ByteArray), 8482⟩ : S42), (⟨(⟨#[108, 97, 114, 114]⟩ : ByteArray), 8592⟩ : S42), (⟨(⟨#[114, 97, 114, 114]⟩ : ByteArray), 8594⟩ : S42), (⟨(⟨#[104, 101, 97, 114, 116, 115]⟩ : ByteArray), 9829⟩ : S42)] : List (S42)))) = some r := h
  clear h
  obtain ⟨y105, hy105⟩ : ∃ y_ : List (S42), y_ = (([(⟨(⟨#[97, 109, 112]⟩ : ByteArray), 38⟩ : S42), (⟨(⟨#[108, 116]⟩ : ByteArray), 60⟩ : S42), (⟨(⟨#[103, 116]⟩ : ByteArray), 62⟩ : S42), (⟨(⟨#[113, 117, 111, 116]⟩ : ByteArray), 34⟩ : S42), (⟨(⟨#[97, 112, 111, 115]⟩ : ByteArray), 39⟩ : S42), (⟨(⟨#[110, 98, 115, 112]⟩ : ByteArray), 160⟩ : S42), (⟨(⟨#[99, 111, 112, 121]⟩ : ByteArray), 169⟩ : S42), (⟨(⟨#[114, 101, 103]⟩ : ByteArray), 174⟩ : S42), (⟨(⟨#[99, 101, 110, 116]⟩ : ByteArray), 162⟩ : S42), (⟨(⟨#[112, 111, 117, 110, 100]⟩ : ByteArray), 163⟩ : S42), (⟨(⟨#[121, 101, 110]⟩ : ByteArray), 165⟩ : S42), (⟨(⟨#[115, 101, 99, 116]⟩ : ByteArray), 167⟩ : S42), (⟨(⟨#[100, 101, 103]⟩ : ByteArray), 176⟩ : S42), (⟨(⟨#[112, 108, 117, 115, 109, 110]⟩ : ByteArray), 177⟩ : S42), (⟨(⟨#[112, 97, 114, 97]⟩ : ByteArray), 182⟩ : S42), (⟨(⟨#[109, 105, 100, 100, 111, 116]⟩ : ByteArray), 183⟩ : S42), (⟨(⟨#[108, 97, 113, 117, 111]⟩ : ByteArray), 171⟩ : S42), (⟨(⟨#[114, 97, 113, 117, 111]⟩ : ByteArray), 187⟩ : S42), (⟨(⟨#[102, 114, 97, 99, 49, 50]⟩ : ByteArray), 189⟩ : S42), (⟨(⟨#[116, 105, 109, 101, 115]⟩ : ByteArray), 215⟩ : S42), (⟨(⟨#[100, 105, 118, 105, 100, 101]⟩ : ByteArray), 247⟩ : S42), (⟨(⟨#[97, 103, 114, 97, 118, 101]⟩ : ByteArray), 224⟩ : S42), (⟨(⟨#[97, 97, 99, 117, 116, 101]⟩ : ByteArray), 225⟩ : S42), (⟨(⟨#[97, 99, 105, 114, 99]⟩ : ByteArray), 226⟩ : S42), (⟨(⟨#[97, 117, 109, 108]⟩ : ByteArray), 228⟩ : S42), (⟨(⟨#[97, 114, 105, 110, 103]⟩ : ByteArray), 229⟩ : S42), (⟨(⟨#[97, 101, 108, 105, 103]⟩ : ByteArray), 230⟩ : S42), (⟨(⟨#[99, 99, 101, 100, 105, 108]⟩ : ByteArray), 231⟩ : S42), (⟨(⟨#[101, 103, 114, 97, 118, 101]⟩ : ByteArray), 232⟩ : S42), (⟨(⟨#[101, 97, 99, 117, 116, 101]⟩ : ByteArray), 233⟩ : S42), (⟨(⟨#[101, 99, 105, 114, 99]⟩ : ByteArray), 234⟩ : S42), (⟨(⟨#[105, 97, 99, 117, 116, 101]⟩ : ByteArray), 237⟩ : S42), (⟨(⟨#[110, 116, 105, 108, 100, 101]⟩ : ByteArray), 241⟩ : S42), (⟨(⟨#[111, 97, 99, 117, 116, 101]⟩ : ByteArray), 243⟩ : S42), (⟨(⟨#[111, 117, 109, 108]⟩ : ByteArray), 246⟩ : S42), (⟨(⟨#[111, 115, 108, 97, 115, 104]⟩ : ByteArray), 248⟩ : S42), (⟨(⟨#[117, 97, 99, 117, 116, 101]⟩ : ByteArray), 250⟩ : S42), (⟨(⟨#[117, 117, 109, 108]⟩ : ByteArray), 252⟩ : S42), (⟨(⟨#[115, 122, 108, 105, 103]⟩ : ByteArray), 223⟩ : S42), (⟨(⟨#[65, 117, 109, 108]⟩ : ByteArray), 196⟩ : S42), (⟨(⟨#[79, 117, 109, 108]⟩ : ByteArray), 214⟩ : S42), (⟨(⟨#[85, 117, 109, 108]⟩ : ByteArray), 220⟩ : S42), (⟨(⟨#[69, 97, 99, 117, 116, 101]⟩ : ByteArray), 201⟩ : S42), (⟨(⟨#[110, 100, 97, 115, 104]⟩ : ByteArray), 8211⟩ : S42), (⟨(⟨#[109, 100, 97, 115, 104]⟩ : ByteArray), 8212⟩ : S42), (⟨(⟨#[108, 115, 113, 117, 111]⟩ : ByteArray), 8216⟩ : S42), (⟨(⟨#[114, 115, 113, 117, 111]⟩ : ByteArray), 8217⟩ : S42), (⟨(⟨#[108, 100, 113, 117, 111]⟩ : ByteArray), 8220⟩ : S42), (⟨(⟨#[114, 100, 113, 117, 111]⟩ : ByteArray), 8221⟩ : S42), (⟨(⟨#[98, 117, 108, 108]⟩ : ByteArray), 8226⟩ : S42), (⟨(⟨#[104, 101, 108, 108, 105, 112]⟩ : ByteArray), 8230⟩ : S42), (⟨(⟨#[101, 117, 114, 111]⟩ : ByteArray), 8364⟩ : S42), (⟨(⟨#[116, 114, 97, 100, 101]⟩ : ByteArray), 8482⟩ : S42), (⟨(⟨#[108, 97, 114, 114]⟩ : ByteArray), 8592⟩ : S42), (⟨(⟨#[114, 97, 114, 114]⟩ : ByteArray), 8594⟩ : S42), (⟨(⟨#[104, 101, 97, 114, 116, 115]⟩ : ByteArray), 9829⟩ : S42)] : List (S42))) := ⟨_, rfl⟩
  replace H : (some y105) = some r := by first | (rw [hy105]; with_reducible exact H) | (have H2_ := (Option.bind_some _ _).symm.trans H; rw [hy105]; with_reducible exact H2_) | (have H2_ := (Option.bind_some _ _).symm.trans H; with_reducible exact H2_) | with_reducible exact H | (rw [hy105]; exact H) | exact H
  have Ny105 := Aside0.mk hy105
  clear hy105
  obtain rfl := Option.some.inj H
  go_enter Tryd.func26, Tryd.ntmps26
  go_wp2_with (first | ((with_reducible refine gate_dst (N := 57) rfl ?_); refine Kd.R_lit k42 _ 42 ?hg (N := 57) ?hd (xs := ([(⟨(⟨#[97, 109, 112]⟩ : ByteArray), 38⟩ : S42), (⟨(⟨#[108, 116]⟩ : ByteArray), 60⟩ : S42), (⟨(⟨#[103, 116]⟩ : ByteArray), 62⟩ : S42), (⟨(⟨#[113, 117, 111, 116]⟩ : ByteArray), 34⟩ : S42), (⟨(⟨#[97, 112, 111, 115]⟩ : ByteArray), 39⟩ : S42), (⟨(⟨#[110, 98, 115, 112]⟩ : ByteArray), 160⟩ : S42), (⟨(⟨#[99, 111, 112, 121]⟩ : ByteArray), 169⟩ : S42), (⟨(⟨#[114, 101, 103]⟩ : ByteArray), 174⟩ : S42), (⟨(⟨#[99, 101, 110, 116]⟩ : ByteArray), 162⟩ : S42), (⟨(⟨#[112, 111, 117, 110, 100]⟩ : ByteArray), 163⟩ : S42), (⟨(⟨#[121, 101, 110]⟩ : ByteArray), 165⟩ : S42), (⟨(⟨#[115, 101, 99, 116]⟩ : ByteArray), 167⟩ : S42), (⟨(⟨#[100, 101, 103]⟩ : ByteArray), 176⟩ : S42), (⟨(⟨#[112, 108, 117, 115, 109, 110]⟩ : ByteArray), 177⟩ : S42), (⟨(⟨#[112, 97, 114, 97]⟩ : ByteArray), 182⟩ : S42), (⟨(⟨#[109, 105, 100, 100, 111, 116]⟩ : ByteArray), 183⟩ : S42), (⟨(⟨#[108, 97, 113, 117, 111]⟩ : ByteArray), 171⟩ : S42), (⟨(⟨#[114, 97, 113, 117, 111]⟩ : ByteArray), 187⟩ : S42), (⟨(⟨#[102, 114, 97, 99, 49, 50]⟩ : ByteArray), 189⟩ : S42), (⟨(⟨#[116, 105, 109, 101, 115]⟩ : ByteArray), 215⟩ : S42), (⟨(⟨#[100, 105, 118, 105, 100, 101]⟩ : ByteArray), 247⟩ : S42), (⟨(⟨#[97, 103, 114, 97, 118, 101]⟩ : ByteArray), 224⟩ : S42), (⟨(⟨#[97, 97, 99, 117, 116, 101]⟩ : ByteArray), 225⟩ : S42), (⟨(⟨#[97, 99, 105, 114, 99]⟩ : ByteArray), 226⟩ : S42), (⟨(⟨#[97, 117, 109, 108]⟩ : ByteArray), 228⟩ : S42), (⟨(⟨#[97, 114, 105, 110, 103]⟩ : ByteArray), 229⟩ : S42), (⟨(⟨#[97, 101, 108, 105, 103]⟩ : ByteArray), 230⟩ : S42), (⟨(⟨#[99, 99, 101, 100, 105, 108]⟩ : ByteArray), 231⟩ : S42), (⟨(⟨#[101, 103, 114, 97, 118, 101]⟩ : ByteArray), 232⟩ : S42), (⟨(⟨#[101, 97, 99, 117, 116, 101]⟩ : ByteArray), 233⟩ : S42), (⟨(⟨#[101, 99, 105, 114, 99]⟩ : ByteArray), 234⟩ : S42), (⟨(⟨#[105, 97, 99, 117, 116, 101]⟩ : ByteArray), 237⟩ : S42), (⟨(⟨#[110, 116, 105, 108, 100, 101]⟩ : ByteArray), 241⟩ : S42), (⟨(⟨#[111, 97, 99, 117, 116, 101]⟩ : ByteArray), 243⟩ : S42), (⟨(⟨#[111, 117, 109, 108]⟩ : ByteArray), 246⟩ : S42), (⟨(⟨#[111, 115, 108, 97, 115, 104]⟩ : ByteArray), 248⟩ : S42), (⟨(⟨#[117, 97, 99, 117, 116, 101]⟩ : ByteArray), 250⟩ : S42), (⟨(⟨#[117, 117, 109, 108]⟩ : ByteArray), 252⟩ : S42), (⟨(⟨#[115, 122, 108, 105, 103]⟩ : ByteArray), 223⟩ : S42), (⟨(⟨#[65, 117, 109, 108]⟩ : ByteArray), 196⟩ : S42), (⟨(⟨#[79, 117, 109, 108]⟩ : ByteArray), 214⟩ : S42), (⟨(⟨#[85, 117, 109, 108]⟩ : ByteArray), 220⟩ : S42), (⟨(⟨#[69, 97, 99, 117, 116, 101]⟩ : ByteArray), 201⟩ : S42), (⟨(⟨#[110, 100, 97, 115, 104]⟩ : ByteArray), 8211⟩ : S42), (⟨(⟨#[109, 100, 97, 115, 104]⟩ : ByteArray), 8212⟩ : S42), (⟨(⟨#[108, 115, 113, 117, 111]⟩ : ByteArray), 8216⟩ : S42), (⟨(⟨#[114, 115, 113, 117, 111]⟩ : ByteArray), 8217⟩ : S42), (⟨(⟨#[108, 100, 113, 117, 111]⟩ : ByteArray), 8220⟩ : S42), (⟨(⟨#[114, 100, 113, 117, 111]⟩ : ByteArray), 8221⟩ : S42), (⟨(⟨#[98, 117, 108, 108]⟩ : ByteArray), 8226⟩ : S42), (⟨(⟨#[104, 101, 108, 108, 105, 112]⟩ : ByteArray), 8230⟩ : S42), (⟨(⟨#[101, 117, 114, 111]⟩ : ByteArray), 8364⟩ : S42), (⟨(⟨#[116, 114, 97, 100, 101]⟩ : ByteArray), 8482⟩ : S42), (⟨(⟨#[108, 97, 114, 114]⟩ : ByteArray), 8592⟩ : S42), (⟨(⟨#[114, 97, 114, 114]⟩ : ByteArray), 8594⟩ : S42), (⟨(⟨#[104, 101, 97, 114, 116, 115]⟩ : ByteArray), 9829⟩ : S42)] : List (S42))) (inner := [.string (⟨#[97, 109, 112]⟩ : ByteArray), .int .i32 38, .string (⟨#[108, 116]⟩ : ByteArray), .int .i32 60, .string (⟨#[103, 116]⟩ : ByteArray), .int .i32 62, .string (⟨#[113, 117, 111, 116]⟩ : ByteArray), .int .i32 34, .string (⟨#[97, 112, 111, 115]⟩ : ByteArray), .int .i32 39, .string (⟨#[110, 98, 115, 112]⟩ : ByteArray), .int .i32 160, .string (⟨#[99, 111, 112, 121]⟩ : ByteArray), .int .i32 169, .string (⟨#[114, 101, 103]⟩ : ByteArray), .int .i32 174, .string (⟨#[99, 101, 110, 116]⟩ : ByteArray), .int .i32 162, .string (⟨#[112, 111, 117, 110, 100]⟩ : ByteArray), .int .i32 163, .string (⟨#[121, 101, 110]⟩ : ByteArray), .int .i32 165, .string (⟨#[115, 101, 99, 116]⟩ : ByteArray), .int .i32 167, .string (⟨#[100, 101, 103]⟩ : ByteArray), .int .i32 176, .string (⟨#[112, 108, 117, 115, 109, 110]⟩ : ByteArray), .int .i32 177, .string (⟨#[112, 97, 114, 97]⟩ : ByteArray), .int .i32 182, .string (⟨#[109, 105, 100, 100, 111, 116]⟩ : ByteArray), .int .i32 183, .string (⟨#[108, 97, 113, 117, 111]⟩ : ByteArray), .int .i32 171, .string (⟨#[114, 97, 113, 117, 111]⟩ : ByteArray), .int .i32 187, .string (⟨#[102, 114, 97, 99, 49, 50]⟩ : ByteArray), .int .i32 189, .string (⟨#[116, 105, 109, 101, 115]⟩ : ByteArray), .int .i32 215, .string (⟨#[100, 105, 118, 105, 100, 101]⟩ : ByteArray), .int .i32 247, .string (⟨#[97, 103, 114, 97, 118, 101]⟩ : ByteArray), .int .i32 224, .string (⟨#[97, 97, 99, 117, 116, 101]⟩ : ByteArray), .int .i32 225, .string (⟨#[97, 99, 105, 114, 99]⟩ : ByteArray), .int .i32 226, .string (⟨#[97, 117, 109, 108]⟩ : ByteArray), .int .i32 228, .string (⟨#[97, 114, 105, 110, 103]⟩ : ByteArray), .int .i32 229, .string (⟨#[97, 101, 108, 105, 103]⟩ : ByteArray), .int .i32 230, .string (⟨#[99, 99, 101, 100, 105, 108]⟩ : ByteArray), .int .i32 231, .string (⟨#[101, 103, 114, 97, 118, 101]⟩ : ByteArray), .int .i32 232, .string (⟨#[101, 97, 99, 117, 116, 101]⟩ : ByteArray), .int .i32 233, .string (⟨#[101, 99, 105, 114, 99]⟩ : ByteArray), .int .i32 234, .string (⟨#[105, 97, 99, 117, 116, 101]⟩ : ByteArray), .int .i32 237, .string (⟨#[110, 116, 105, 108, 100, 101]⟩ : ByteArray), .int .i32 241, .string (⟨#[111, 97, 99, 117, 116, 101]⟩ : ByteArray), .int .i32 243, .string (⟨#[111, 117, 109, 108]⟩ : ByteArray), .int .i32 246, .string (⟨#[111, 115, 108, 97, 115, 104]⟩ : ByteArray), .int .i32 248, .string (⟨#[117, 97, 99, 117, 116, 101]⟩ : ByteArray), .int .i32 250, .string (⟨#[117, 117, 109, 108]⟩ : ByteArray), .int .i32 252, .string (⟨#[115, 122, 108, 105, 103]⟩ : ByteArray), .int .i32 223, .string (⟨#[65, 117, 109, 108]⟩ : ByteArray), .int .i32 196, .string (⟨#[79, 117, 109, 108]⟩ : ByteArray), .int .i32 214, .string (⟨#[85, 117, 109, 108]⟩ : ByteArray), .int .i32 220, .string (⟨#[69, 97, 99, 117, 116, 101]⟩ : ByteArray), .int .i32 201, .string (⟨#[110, 100, 97, 115, 104]⟩ : ByteArray), .int .i32 8211, .string (⟨#[109, 100, 97, 115, 104]⟩ : ByteArray), .int .i32 8212, .string (⟨#[108, 115, 113, 117, 111]⟩ : ByteArray), .int .i32 8216, .string (⟨#[114, 115, 113, 117, 111]⟩ : ByteArray), .int .i32 8217, .string (⟨#[108, 100, 113, 117, 111]⟩ : ByteArray), .int .i32 8220, .string (⟨#[114, 100, 113, 117, 111]⟩ : ByteArray), .int .i32 8221, .string (⟨#[98, 117, 108, 108]⟩ : ByteArray), .int .i32 8226, .string (⟨#[104, 101, 108, 108, 105, 112]⟩ : ByteArray), .int .i32 8230, .string (⟨#[101, 117, 114, 111]⟩ : ByteArray), .int .i32 8364, .string (⟨#[116, 114, 97, 100, 101]⟩ : ByteArray), .int .i32 8482, .string (⟨#[108, 97, 114, 114]⟩ : ByteArray), .int .i32 8592, .string (⟨#[114, 97, 114, 114]⟩ : ByteArray), .int .i32 8594, .string (⟨#[104, 101, 97, 114, 116, 115]⟩ : ByteArray), .int .i32 9829]) (ok := fun _ => True) (okp := fun _ => True) ?hr ?hp (fun _ hk => hk) trivial (Below.refl _ _) (Nat.le_refl _) (by simp) ?_; (case hd => rfl); (case hg => rfl); (case hr => first | (go_simp; done) | (go_simp; rfl)); (case hp => exact (Reps.c2 (show Kd.M k42 _ _ _ (⟨(⟨#[97, 109, 112]⟩ : ByteArray), 38⟩ : S42) [.string (⟨#[97, 109, 112]⟩ : ByteArray), .int .i32 38] from (k42_mkM _ _ _ (⟨(⟨#[97, 109, 112]⟩ : ByteArray), 38⟩ : S42) )) (Reps.c2 (show Kd.M k42 _ _ _ (⟨(⟨#[108, 116]⟩ : ByteArray), 60⟩ : S42) [.string (⟨#[108, 116]⟩ : ByteArray), .int .i32 60] from (k42_mkM _ _ _ (⟨(⟨#[108, 116]⟩ : ByteArray), 60⟩ : S42) )) (Reps.c2 (show Kd.M k42 _ _ _ (⟨(⟨#[103, 116]⟩ : ByteArray), 62⟩ : S42) [.string (⟨#[103, 116]⟩ : ByteArray), .int .i32 62] from (k42_mkM _ _ _ (⟨(⟨#[103, 116]⟩ : ByteArray), 62⟩ : S42) )) (Reps.c2 (show Kd.M k42 _ _ _ (⟨(⟨#[113, 117, 111, 116]⟩ : ByteArray), 34⟩ : S42) [.string (⟨#[113, 117, 111, 116]⟩ : ByteArray), .int .i32 34] from (k42_mkM _ _ _ (⟨(⟨#[113, 117, 111, 116]⟩ : ByteArray), 34⟩ : S42) )) (Reps.c2 (show Kd.M k42 _ _ _ (⟨(⟨#[97, 112, 111, 115]⟩ : ByteArray), 39⟩ : S42) [.string (⟨#[97, 112, 111, 115]⟩ : ByteArray), .int .i32 39] from (k42_mkM _ _ _ (⟨(⟨#[97, 112, 111, 115]⟩ : ByteArray), 39⟩ : S42) )) (Reps.c2 (show Kd.M k42 _ _ _ (⟨(⟨#[110, 98, 115, 112]⟩ : ByteArray), 160⟩ : S42) [.string (⟨#[110, 98, 115, 112]⟩ : ByteArray), .int .i32 160] from (k42_mkM _ _ _ (⟨(⟨#[110, 98, 115, 112]⟩ : ByteArray), 160⟩ : S42) )) (Reps.c2 (show Kd.M k42 _ _ _ (⟨(⟨#[99, 111, 112, 121]⟩ : ByteArray), 169⟩ : S42) [.string (⟨#[99, 111, 112, 121]⟩ : ByteArray), .int .i32 169] from (k42_mkM _ _ _ (⟨(⟨#[99, 111, 112, 121]⟩ : ByteArray), 169⟩ : S42) )) (Reps.c2 (show Kd.M k42 _ _ _ (⟨(⟨#[114, 101, 103]⟩ : ByteArray), 174⟩ : S42) [.string (⟨#[114, 101, 103]⟩ : ByteArray), .int .i32 174] from (k42_mkM _ _ _ (⟨(⟨#[114, 101, 103]⟩ : ByteArray), 174⟩ : S42) )) (Reps.c2 (show Kd.M k42 _ _ _ (⟨(⟨#[99, 101, 110, 116]⟩ : ByteArray), 162⟩ : S42) [.string (⟨#[99, 101, 110, 116]⟩ : ByteArray), .int .i32 162] from (k42_mkM _ _ _ (⟨(⟨#[99, 101, 110, 116]⟩ : ByteArray), 162⟩ : S42) )) (Reps.c2 (show Kd.M k42 _ _ _ (⟨(⟨#[112, 111, 117, 110, 100]⟩ : ByteArray), 163⟩ : S42) [.string (⟨#[112, 111, 117, 110, 100]⟩ : ByteArray), .int .i32 163] from (k42_mkM _ _ _ (⟨(⟨#[112, 111, 117, 110, 100]⟩ : ByteArray), 163⟩ : S42) )) (Reps.c2 (show Kd.M k42 _ _ _ (⟨(⟨#[121, 101, 110]⟩ : ByteArray), 165⟩ : S42) [.string (⟨#[121, 101, 110]⟩ : ByteArray), .int .i32 165] from (k42_mkM _ _ _ (⟨(⟨#[121, 101, 110]⟩ : ByteArray), 165⟩ : S42) )) (Reps.c2 (show Kd.M k42 _ _ _ (⟨(⟨#[115, 101, 99, 116]⟩ : ByteArray), 167⟩ : S42) [.string (⟨#[115, 101, 99, 116]⟩ : ByteArray), .int .i32 167] from (k42_mkM _ _ _ (⟨(⟨#[115, 101, 99, 116]⟩ : ByteArray), 167⟩ : S42) )) (Reps.c2 (show Kd.M k42 _ _ _ (⟨(⟨#[100, 101, 103]⟩ : ByteArray), 176⟩ : S42) [.string (⟨#[100, 101, 103]⟩ : ByteArray), .int .i32 176] from (k42_mkM _ _ _ (⟨(⟨#[100, 101, 103]⟩ : ByteArray), 176⟩ : S42) )) (Reps.c2 (show Kd.M k42 _ _ _ (⟨(⟨#[112, 108, 117, 115, 109, 110]⟩ : ByteArray), 177⟩ : S42) [.string (⟨#[112, 108, 117, 115, 109, 110]⟩ : ByteArray), .int .i32 177] from (k42_mkM _ _ _ (⟨(⟨#[112, 108, 117, 115, 109, 110]⟩ : ByteArray), 177⟩ : S42) )) (Reps.c2 (show Kd.M k42 _ _ _ (⟨(⟨#[112, 97, 114, 97]⟩ : ByteArray), 182⟩ : S42) [.string (⟨#[112, 97, 114, 97]⟩ : ByteArray), .int .i32 182] from (k42_mkM _ _ _ (⟨(⟨#[112, 97, 114, 97]⟩ : ByteArray), 182⟩ : S42) )) (Reps.c2 (show Kd.M k42 _ _ _ (⟨(⟨#[109, 105, 100, 100, 111, 116]⟩ : ByteArray), 183⟩ : S42) [.string (⟨#[109, 105, 100, 100, 111, 116]⟩ : ByteArray), .int .i32 183] from (k42_mkM _ _ _ (⟨(⟨#[109, 105, 100, 100, 111, 116]⟩ : ByteArray), 183⟩ : S42) )) (Reps.c2 (show Kd.M k42 _ _ _ (⟨(⟨#[108, 97, 113, 117, 111]⟩ : ByteArray), 171⟩ : S42) [.string (⟨#[108, 97, 113, 117, 111]⟩ : ByteArray), .int .i32 171] from (k42_mkM _ _ _ (⟨(⟨#[108, 97, 113, 117, 111]⟩ : ByteArray), 171⟩ : S42) )) (Reps.c2 (show Kd.M k42 _ _ _ (⟨(⟨#[114, 97, 113, 117, 111]⟩ : ByteArray), 187⟩ : S42) [.string (⟨#[114, 97, 113, 117, 111]⟩ : ByteArray), .int .i32 187] from (k42_mkM _ _ _ (⟨(⟨#[114, 97, 113, 117, 111]⟩ : ByteArray), 187⟩ : S42) )) (Reps.c2 (show Kd.M k42 _ _ _ (⟨(⟨#[102, 114, 97, 99, 49, 50]⟩ : ByteArray), 189⟩ : S42) [.string (⟨#[102, 114, 97, 99, 49, 50]⟩ : ByteArray), .int .i32 189] from (k42_mkM _ _ _ (⟨(⟨#[102, 114, 97, 99, 49, 50]⟩ : ByteArray), 189⟩ : S42) )) (Reps.c2 (show Kd.M k42 _ _ _ (⟨(⟨#[116, 105, 109, 101, 115]⟩ : ByteArray), 215⟩ : S42) [.string (⟨#[116, 105, 109, 101, 115]⟩ : ByteArray), .int .i32 215] from (k42_mkM _ _ _ (⟨(⟨#[116, 105, 109, 101, 115]⟩ : ByteArray), 215⟩ : S42) )) (Reps.c2 (show Kd.M k42 _ _ _ (⟨(⟨#[100, 105, 118, 105, 100, 101]⟩ : ByteArray), 247⟩ : S42) [.string (⟨#[100, 105, 118, 105, 100, 101]⟩ : ByteArray), .int .i32 247] from (k42_mkM _ _ _ (⟨(⟨#[100, 105, 118, 105, 100, 101]⟩ : ByteArray), 247⟩ : S42) )) (Reps.c2 (show Kd.M k42 _ _ _ (⟨(⟨#[97, 103, 114, 97, 118, 101]⟩ : ByteArray), 224⟩ : S42) [.string (⟨#[97, 103, 114, 97, 118, 101]⟩ : ByteArray), .int .i32 224] from (k42_mkM _ _ _ (⟨(⟨#[97, 103, 114, 97, 118, 101]⟩ : ByteArray), 224⟩ : S42) )) (Reps.c2 (show Kd.M k42 _ _ _ (⟨(⟨#[97, 97, 99, 117, 116, 101]⟩ : ByteArray), 225⟩ : S42) [.string (⟨#[97, 97, 99, 117, 116, 101]⟩ : ByteArray), .int .i32 225] from (k42_mkM _ _ _ (⟨(⟨#[97, 97, 99, 117, 116, 101]⟩ : ByteArray), 225⟩ : S42) )) (Reps.c2 (show Kd.M k42 _ _ _ (⟨(⟨#[97, 99, 105, 114, 99]⟩ : ByteArray), 226⟩ : S42) [.string (⟨#[97, 99, 105, 114, 99]⟩ : ByteArray), .int .i32 226] from (k42_mkM _ _ _ (⟨(⟨#[97, 99, 105, 114, 99]⟩ : ByteArray), 226⟩ : S42) )) (Reps.c2 (show Kd.M k42 _ _ _ (⟨(⟨#[97, 117, 109, 108]⟩ : ByteArray), 228⟩ : S42) [.string (⟨#[97, 117, 109, 108]⟩ : ByteArray), .int .i32 228] from (k42_mkM _ _ _ (⟨(⟨#[97, 117, 109, 108]⟩ : ByteArray), 228⟩ : S42) )) (Reps.c2 (show Kd.M k42 _ _ _ (⟨(⟨#[97, 114, 105, 110, 103]⟩ : ByteArray), 229⟩ : S42) [.string (⟨#[97, 114, 105, 110, 103]⟩ : ByteArray), .int .i32 229] from (k42_mkM _ _ _ (⟨(⟨#[97, 114, 105, 110, 103]⟩ : ByteArray), 229⟩ : S42) )) (Reps.c2 (show Kd.M k42 _ _ _ (⟨(⟨#[97, 101, 108, 105, 103]⟩ : ByteArray), 230⟩ : S42) [.string (⟨#[97, 101, 108, 105, 103]⟩ : ByteArray), .int .i32 230] from (k42_mkM _ _ _ (⟨(⟨#[97, 101, 108, 105, 103]⟩ : ByteArray), 230⟩ : S42) )) (Reps.c2 (show Kd.M k42 _ _ _ (⟨(⟨#[99, 99, 101, 100, 105, 108]⟩ : ByteArray), 231⟩ : S42) [.string (⟨#[99, 99, 101, 100, 105, 108]⟩ : ByteArray), .int .i32 231] from (k42_mkM _ _ _ (⟨(⟨#[99, 99, 101, 100, 105, 108]⟩ : ByteArray), 231⟩ : S42) )) (Reps.c2 (show Kd.M k42 _ _ _ (⟨(⟨#[101, 103, 114, 97, 118, 101]⟩ : ByteArray), 232⟩ : S42) [.string (⟨#[101, 103, 114, 97, 118, 101]⟩ : ByteArray), .int .i32 232] from (k42_mkM _ _ _ (⟨(⟨#[101, 103, 114, 97, 118, 101]⟩ : ByteArray), 232⟩ : S42) )) (Reps.c2 (show Kd.M k42 _ _ _ (⟨(⟨#[101, 97, 99, 117, 116, 101]⟩ : ByteArray), 233⟩ : S42) [.string (⟨#[101, 97, 99, 117, 116, 101]⟩ : ByteArray), .int .i32 233] from (k42_mkM _ _ _ (⟨(⟨#[101, 97, 99, 117, 116, 101]⟩ : ByteArray), 233⟩ : S42) )) (Reps.c2 (show Kd.M k42 _ _ _ (⟨(⟨#[101, 99, 105, 114, 99]⟩ : ByteArray), 234⟩ : S42) [.string (⟨#[101, 99, 105, 114, 99]⟩ : ByteArray), .int .i32 234] from (k42_mkM _ _ _ (⟨(⟨#[101, 99, 105, 114, 99]⟩ : ByteArray), 234⟩ : S42) )) (Reps.c2 (show Kd.M k42 _ _ _ (⟨(⟨#[105, 97, 99, 117, 116, 101]⟩ : ByteArray), 237⟩ : S42) [.string (⟨#[105, 97, 99, 117, 116, 101]⟩ : ByteArray), .int .i32 237] from (k42_mkM _ _ _ (⟨(⟨#[105, 97, 99, 117, 116, 101]⟩ : ByteArray), 237⟩ : S42) )) (Reps.c2 (show Kd.M k42 _ _ _ (⟨(⟨#[110, 116, 105, 108, 100, 101]⟩ : ByteArray), 241⟩ : S42) [.string (⟨#[110, 116, 105, 108, 100, 101]⟩ : ByteArray), .int .i32 241] from (k42_mkM _ _ _ (⟨(⟨#[110, 116, 105, 108, 100, 101]⟩ : ByteArray), 241⟩ : S42) )) (Reps.c2 (show Kd.M k42 _ _ _ (⟨(⟨#[111, 97, 99, 117, 116, 101]⟩ : ByteArray), 243⟩ : S42) [.string (⟨#[111, 97, 99, 117, 116, 101]⟩ : ByteArray), .int .i32 243] from (k42_mkM _ _ _ (⟨(⟨#[111, 97, 99, 117, 116, 101]⟩ : ByteArray), 243⟩ : S42) )) (Reps.c2 (show Kd.M k42 _ _ _ (⟨(⟨#[111, 117, 109, 108]⟩ : ByteArray), 246⟩ : S42) [.string (⟨#[111, 117, 109, 108]⟩ : ByteArray), .int .i32 246] from (k42_mkM _ _ _ (⟨(⟨#[111, 117, 109, 108]⟩ : ByteArray), 246⟩ : S42) )) (Reps.c2 (show Kd.M k42 _ _ _ (⟨(⟨#[111, 115, 108, 97, 115, 104]⟩ : ByteArray), 248⟩ : S42) [.string (⟨#[111, 115, 108, 97, 115, 104]⟩ : ByteArray), .int .i32 248] from (k42_mkM _ _ _ (⟨(⟨#[111, 115, 108, 97, 115, 104]⟩ : ByteArray), 248⟩ : S42) )) (Reps.c2 (show Kd.M k42 _ _ _ (⟨(⟨#[117, 97, 99, 117, 116, 101]⟩ : ByteArray), 250⟩ : S42) [.string (⟨#[117, 97, 99, 117, 116, 101]⟩ : ByteArray), .int .i32 250] from (k42_mkM _ _ _ (⟨(⟨#[117, 97, 99, 117, 116, 101]⟩ : ByteArray), 250⟩ : S42) )) (Reps.c2 (show Kd.M k42 _ _ _ (⟨(⟨#[117, 117, 109, 108]⟩ : ByteArray), 252⟩ : S42) [.string (⟨#[117, 117, 109, 108]⟩ : ByteArray), .int .i32 252] from (k42_mkM _ _ _ (⟨(⟨#[117, 117, 109, 108]⟩ : ByteArray), 252⟩ : S42) )) (Reps.c2 (show Kd.M k42 _ _ _ (⟨(⟨#[115, 122, 108, 105, 103]⟩ : ByteArray), 223⟩ : S42) [.string (⟨#[115, 122, 108, 105, 103]⟩ : ByteArray), .int .i32 223] from (k42_mkM _ _ _ (⟨(⟨#[115, 122, 108, 105, 103]⟩ : ByteArray), 223⟩ : S42) )) (Reps.c2 (show Kd.M k42 _ _ _ (⟨(⟨#[65, 117, 109, 108]⟩ : ByteArray), 196⟩ : S42) [.string (⟨#[65, 117, 109, 108]⟩ : ByteArray), .int .i32 196] from (k42_mkM _ _ _ (⟨(⟨#[65, 117, 109, 108]⟩ : ByteArray), 196⟩ : S42) )) (Reps.c2 (show Kd.M k42 _ _ _ (⟨(⟨#[79, 117, 109, 108]⟩ : ByteArray), 214⟩ : S42) [.string (⟨#[79, 117, 109, 108]⟩ : ByteArray), .int .i32 214] from (k42_mkM _ _ _ (⟨(⟨#[79, 117, 109, 108]⟩ : ByteArray), 214⟩ : S42) )) (Reps.c2 (show Kd.M k42 _ _ _ (⟨(⟨#[85, 117, 109, 108]⟩ : ByteArray), 220⟩ : S42) [.string (⟨#[85, 117, 109, 108]⟩ : ByteArray), .int .i32 220] from (k42_mkM _ _ _ (⟨(⟨#[85, 117, 109, 108]⟩ : ByteArray), 220⟩ : S42) )) (Reps.c2 (show Kd.M k42 _ _ _ (⟨(⟨#[69, 97, 99, 117, 116, 101]⟩ : ByteArray), 201⟩ : S42) [.string (⟨#[69, 97, 99, 117, 116, 101]⟩ : ByteArray), .int .i32 201] from (k42_mkM _ _ _ (⟨(⟨#[69, 97, 99, 117, 116, 101]⟩ : ByteArray), 201⟩ : S42) )) (Reps.c2 (show Kd.M k42 _ _ _ (⟨(⟨#[110, 100, 97, 115, 104]⟩ : ByteArray), 8211⟩ : S42) [.string (⟨#[110, 100, 97, 115, 104]⟩ : ByteArray), .int .i32 8211] from (k42_mkM _ _ _ (⟨(⟨#[110, 100, 97, 115, 104]⟩ : ByteArray), 8211⟩ : S42) )) (Reps.c2 (show Kd.M k42 _ _ _ (⟨(⟨#[109, 100, 97, 115, 104]⟩ : ByteArray), 8212⟩ : S42) [.string (⟨#[109, 100, 97, 115, 104]⟩ : ByteArray), .int .i32 8212] from (k42_mkM _ _ _ (⟨(⟨#[109, 100, 97, 115, 104]⟩ : ByteArray), 8212⟩ : S42) )) (Reps.c2 (show Kd.M k42 _ _ _ (⟨(⟨#[108, 115, 113, 117, 111]⟩ : ByteArray), 8216⟩ : S42) [.string (⟨#[108, 115, 113, 117, 111]⟩ : ByteArray), .int .i32 8216] from (k42_mkM _ _ _ (⟨(⟨#[108, 115, 113, 117, 111]⟩ : ByteArray), 8216⟩ : S42) )) (Reps.c2 (show Kd.M k42 _ _ _ (⟨(⟨#[114, 115, 113, 117, 111]⟩ : ByteArray), 8217⟩ : S42) [.string (⟨#[114, 115, 113, 117, 111]⟩ : ByteArray), .int .i32 8217] from (k42_mkM _ _ _ (⟨(⟨#[114, 115, 113, 117, 111]⟩ : ByteArray), 8217⟩ : S42) )) (Reps.c2 (show Kd.M k42 _ _ _ (⟨(⟨#[108, 100, 113, 117, 111]⟩ : ByteArray), 8220⟩ : S42) [.string (⟨#[108, 100, 113, 117, 111]⟩ : ByteArray), .int .i32 8220] from (k42_mkM _ _ _ (⟨(⟨#[108, 100, 113, 117, 111]⟩ : ByteArray), 8220⟩ : S42) )) (Reps.c2 (show Kd.M k42 _ _ _ (⟨(⟨#[114, 100, 113, 117, 111]⟩ : ByteArray), 8221⟩ : S42) [.string (⟨#[114, 100, 113, 117, 111]⟩ : ByteArray), .int .i32 8221] from (k42_mkM _ _ _ (⟨(⟨#[114, 100, 113, 117, 111]⟩ : ByteArray), 8221⟩ : S42) )) (Reps.c2 (show Kd.M k42 _ _ _ (⟨(⟨#[98, 117, 108, 108]⟩ : ByteArray), 8226⟩ : S42) [.string (⟨#[98, 117, 108, 108]⟩ : ByteArray), .int .i32 8226] from (k42_mkM _ _ _ (⟨(⟨#[98, 117, 108, 108]⟩ : ByteArray), 8226⟩ : S42) )) (Reps.c2 (show Kd.M k42 _ _ _ (⟨(⟨#[104, 101, 108, 108, 105, 112]⟩ : ByteArray), 8230⟩ : S42) [.string (⟨#[104, 101, 108, 108, 105, 112]⟩ : ByteArray), .int .i32 8230] from (k42_mkM _ _ _ (⟨(⟨#[104, 101, 108, 108, 105, 112]⟩ : ByteArray), 8230⟩ : S42) )) (Reps.c2 (show Kd.M k42 _ _ _ (⟨(⟨#[101, 117, 114, 111]⟩ : ByteArray), 8364⟩ : S42) [.string (⟨#[101, 117, 114, 111]⟩ : ByteArray), .int .i32 8364] from (k42_mkM _ _ _ (⟨(⟨#[101, 117, 114, 111]⟩ : ByteArray), 8364⟩ : S42) )) (Reps.c2 (show Kd.M k42 _ _ _ (⟨(⟨#[116, 114, 97, 100, 101]⟩ : ByteArray), 8482⟩ : S42) [.string (⟨#[116, 114, 97, 100, 101]⟩ : ByteArray), .int .i32 8482] from (k42_mkM _ _ _ (⟨(⟨#[116, 114, 97, 100, 101]⟩ : ByteArray), 8482⟩ : S42) )) (Reps.c2 (show Kd.M k42 _ _ _ (⟨(⟨#[108, 97, 114, 114]⟩ : ByteArray), 8592⟩ : S42) [.string (⟨#[108, 97, 114, 114]⟩ : ByteArray), .int .i32 8592] from (k42_mkM _ _ _ (⟨(⟨#[108, 97, 114, 114]⟩ : ByteArray), 8592⟩ : S42) )) (Reps.c2 (show Kd.M k42 _ _ _ (⟨(⟨#[114, 97, 114, 114]⟩ : ByteArray), 8594⟩ : S42) [.string (⟨#[114, 97, 114, 114]⟩ : ByteArray), .int .i32 8594] from (k42_mkM _ _ _ (⟨(⟨#[114, 97, 114, 114]⟩ : ByteArray), 8594⟩ : S42) )) (Reps.c2 (show Kd.M k42 _ _ _ (⟨(⟨#[104, 101, 97, 114, 116, 115]⟩ : ByteArray), 9829⟩ : S42) [.string (⟨#[104, 101, 97, 114, 116, 115]⟩ : ByteArray), .int .i32 9829] from (k42_mkM _ _ _ (⟨(⟨#[104, 101, 97, 114, 116, 115]⟩ : ByteArray), 9829⟩ : S42) )) (Reps.none _ _)))))))))))))))))))))))))))))))))))))))))))))))))))))))))); intro v106 w1 ho2 hb hg_ hnew_; clear hg_ hnew_; (first | rw [← Ny105.out] at ho2 | (simp only [Int.reduceToNat] at ho2; rw [← Ny105.out] at ho2)); have n0_ := Aside0.mk (Kd.R_lower ho2 (below_size (by repeat (first | (with_reducible first | exact HB.out | apply below_alloc | apply pw_below_drewN | apply below_drew1) | exact HB.out)))); have n1_ := Aside0.mk (below_step (by repeat (first | (with_reducible first | exact HB.out | apply below_alloc | apply pw_below_drewN | apply below_drew1) | exact HB.out)) hb); clear HB; have HO107 := n0_; have HB := n1_; clear n0_ n1_; clear hb ho2))
  go_ret
  exact ⟨_, by first | rfl | (simp [errW_none, errW_some] <;> rfl) | (simp [*, errW_none, errW_some] <;> rfl), by (with_reducible repeat (first | apply Kd.R_alloc | apply Kd.R_drewN | apply Kd.R_drew)); exact HO107.out, by repeat (first | (with_reducible first | exact HB.out | apply below_alloc | apply pw_below_drewN | apply below_drew1) | exact HB.out)⟩

/-! ### cringleref11_Name: function 10 -/
def cringleref11_Name.l0 : Nat → ByteArray → List (S42) → Int → Option (Int × Bool)
  | 0, _, _, _ => none
  | k + 1, x0, x4, x5 => if x5 < (x4.length : Int) then (if 0 ≤ x5 then (if ((rd_T42 x4 x5).f0).toList = x0.toList then (some ((rd_T42 x4 x5).f1, true)) else (cringleref11_Name.l0 k x0 x4 (wrap64 (x5 + 1)))) else (none)) else (some (0, false))
def cringleref11_Name.f (k : Nat) (a0 : ByteArray) : Option (Int × Bool) := (cringleref11_names.f).bind fun t108 => (cringleref11_Name.l0 k a0 t108 0)
theorem cringleref11_Name.mono_l : ∀ k, (∀ y0 y1 y2, LeO (cringleref11_Name.l0 k y0 y1 y2) (cringleref11_Name.l0 (k + 1) y0 y1 y2))
  | 0 => fun _ _ _ r h => by simp [cringleref11_Name.l0] at h
  | k + 1 => by
    have ih0 := cringleref11_Name.mono_l k
    · intro y0 y1 y2
      unfold cringleref11_Name.l0
      repeat' first
      | (with_reducible exact ih0 _ _ _)
      | (with_reducible exact LeO.refl _)
      | (with_reducible exact LeO.none _)
      | (with_reducible refine LeO.ite ?_ ?_)
      | (with_reducible refine LeO.bind ?_ (fun _ => ?_))
      | exact ih0 _ _ _
      | exact LeO.none _
      | refine LeO.ite ?_ ?_
      | refine LeO.bind ?_ (fun _ => ?_)
theorem cringleref11_Name.mono : ∀ a0 k, LeO (cringleref11_Name.f k a0) (cringleref11_Name.f (k + 1) a0) := by
  intro a0 k
  have ih0 := cringleref11_Name.mono_l k
  unfold cringleref11_Name.f
  repeat' first
      | (with_reducible exact ih0 _ _ _)
      | (with_reducible exact LeO.refl _)
      | (with_reducible exact LeO.none _)
      | (with_reducible refine LeO.ite ?_ ?_)
      | (with_reducible refine LeO.bind ?_ (fun _ => ?_))
      | exact ih0 _ _ _
      | exact LeO.none _
      | refine LeO.ite ?_ ?_
      | refine LeO.bind ?_ (fun _ => ?_)
set_option maxHeartbeats 8000000 in
set_option maxRecDepth 100000 in
theorem cringleref11_Name.calls (k : Nat) (a0 : ByteArray) (r1 : Int) (r2 : Bool) (w : World) (h : cringleref11_Name.f k a0 = some (r1, r2)) :
    Calls Tryd.prog 10 #[.string a0] w fun e w' => e = .returned (.tuple #[.int .i32 r1, .bool r2]) ∧ Below w.heap.size w w' := by
  have HB := Aside0.mk (Below.refl w.heap.size w)
  have H : ((cringleref11_names.f).bind fun t108 => (cringleref11_Name.l0 k a0 t108 0)) = some (r1, r2) := h
  clear h
  replace H := Option.bind_eq_some_iff.mp H
  obtain ⟨t108, A20, H⟩ := H
  replace H : (cringleref11_Name.l0 k a0 t108 0) = some (r1, r2) := H
  have A2 := Aside0.mk A20
  clear A20
  have H' := Aside0.mk H
  clear H
  go_enter Tryd.func10, Tryd.ntmps10
  go_wp2_with (first | ((with_reducible refine gate_callee (f := 26) rfl ?_); refine goesL_ (some 6) rfl rfl Tryd.func26 (by kernel_rfl) rfl #[] rfl (by (try simp only [List.map_toArray, List.map_cons, List.map_nil]); first | done | rfl | (simp only [List.length_drop, List.length_take]; rfl)) ?_; (with_reducible refine (cringleref11_names.calls  t108 _ A2.out).mono ?_); rintro e w3 ⟨v109, rfl, ho0, hb⟩; refine ⟨_, rfl, ?_⟩; have n0_ := Aside0.mk (Kd.R_lower ho0 (below_size (by repeat (first | (with_reducible first | exact HB.out | apply below_alloc | apply pw_below_drewN | apply below_drew1) | exact HB.out)))); have n1_ := Aside0.mk (below_step (by repeat (first | (with_reducible first | exact HB.out | apply below_alloc | apply pw_below_drewN | apply below_drew1) | exact HB.out)) hb); clear HB; have HO110 := n0_; have HB := n1_; clear n0_ n1_; (try clear hb); (try clear hb2); (try clear hk); (try clear hi); (try clear ho0)))
  go_loopg [5] k (fun kq v5 w' => ∃ (x5_1 : Int), v5 = .int .i64 x5_1 ∧ Aside0 (cringleref11_Name.l0 kq a0 t108 x5_1 = some (r1, r2)) ∧ Aside0 (kq ≤ k) ∧ Aside0 (Kd.R k42 42 w' w.heap.size (fun _ => True) v109 t108) ∧ Aside0 (Below w.heap.size w w'))
  case atStart => exact ⟨(0), (by first | rfl | (simp; done) | (simp [*]; done) | (simp; unfold wrap64; omega)), H', ⟨Nat.le_refl _⟩, ⟨by (with_reducible repeat (first | apply Kd.R_alloc | apply Kd.R_drewN | apply Kd.R_drew)); exact HO110.out⟩, ⟨by repeat (first | (with_reducible first | exact HB.out | apply below_alloc | apply pw_below_drewN | apply below_drew1) | exact HB.out)⟩⟩
  case round =>
    clear H'
    try clear c1
    try clear c2
    try clear p2
    obtain ⟨x5_1, rfl, HA, HK1, HO_4, HB⟩ := hrel
    cases gk with
    | zero => exact absurd HA.out (by simp [cringleref11_Name.l0])
    | succ k1 =>
      have H := HA.out
      clear HA
      simp only [cringleref11_Name.l0] at H
      by_cases c4 : x5_1 < (t108.length : Int)
      · rw [if_pos c4] at H
        have c4b0 : decide (x5_1 < (t108.length : Int)) = true := decide_eq_true c4
        clear c4
        by_cases c5 : 0 ≤ x5_1
        · rw [if_pos c5] at H
          have c5b0 : decide (0 ≤ x5_1) = true := decide_eq_true c5
          clear c5
          by_cases c6 : ((rd_T42 t108 x5_1).f0).toList = a0.toList
          · rw [if_pos c6] at H
            have c6b0 : (((rd_T42 t108 x5_1).f0).toList == a0.toList) = true := beq_iff_eq.mpr c6
            have c6b1 : (((rd_T42 t108 x5_1).f0).toList != a0.toList) = false := bne_eq_false_iff_eq.mpr c6
            clear c6
            simp only [Option.some.injEq, Prod.mk.injEq] at H
            obtain ⟨rfl, rfl⟩ := H
            obtain ⟨Ao7, co7, eo7⟩ := Kd.R_slice HO_4.out
            subst eo7
            have p111 : 0 ≤ (x5_1 : Int) := of_decide_eq_true (by first | (with_reducible assumption) | assumption)
            have q111 : x5_1 < (t108.length : Int) := of_decide_eq_true (by first | (with_reducible assumption) | assumption)
            obtain ⟨ad111, e111, hx111_0, hx111_1⟩ := at_T42 (Kd.R_reads' HO_4.out).2.2 x5_1 p111 q111
            cases e111
            replace p111 := eq_true p111
            replace q111 := eq_true q111
            have p112 : 0 ≤ (x5_1 : Int) := of_decide_eq_true (by first | (with_reducible assumption) | assumption)
            have q112 : x5_1 < (t108.length : Int) := of_decide_eq_true (by first | (with_reducible assumption) | assumption)
            obtain ⟨ad112, e112, hx112_0, hx112_1⟩ := at_T42 (Kd.R_reads' HO_4.out).2.2 x5_1 p112 q112
            obtain rfl : ad111 = ad112 := (by injection e112)
            replace p112 := eq_true p112
            replace q112 := eq_true q112
            go_wp2
            go_ret2
            exact ⟨by first | rfl | (simp [errW_none, errW_some] <;> rfl) | (simp [*, errW_none, errW_some] <;> rfl), by repeat (first | (with_reducible first | exact HB.out | apply below_alloc | apply pw_below_drewN | apply below_drew1) | exact HB.out)⟩
          · rw [if_neg c6] at H
            have c6b0 : (((rd_T42 t108 x5_1).f0).toList == a0.toList) = false := beq_eq_false_iff_ne.mpr c6
            have c6b1 : (((rd_T42 t108 x5_1).f0).toList != a0.toList) = true := bne_iff_ne.mpr c6
            have H' := Aside0.mk H
            clear H
            obtain ⟨Ao8, co8, eo8⟩ := Kd.R_slice HO_4.out
            subst eo8
            have p111 : 0 ≤ (x5_1 : Int) := of_decide_eq_true (by first | (with_reducible assumption) | assumption)
            have q111 : x5_1 < (t108.length : Int) := of_decide_eq_true (by first | (with_reducible assumption) | assumption)
            obtain ⟨ad111, e111, hx111_0, hx111_1⟩ := at_T42 (Kd.R_reads' HO_4.out).2.2 x5_1 p111 q111
            cases e111
            replace p111 := eq_true p111
            replace q111 := eq_true q111
            go_wp2
            go_roundg k1
            case measure => have := HK1.out; omega
            case rel => exact ⟨(wrap64 (x5_1 + 1)), (by first | rfl | (simp; done) | (simp [*]; done) | (simp; unfold wrap64; omega)), H', ⟨by have := HK1.out; omega⟩, ⟨by (with_reducible repeat (first | apply Kd.R_alloc | apply Kd.R_drewN | apply Kd.R_drew)); exact HO_4.out⟩, ⟨by repeat (first | (with_reducible first | exact HB.out | apply below_alloc | apply pw_below_drewN | apply below_drew1) | exact HB.out)⟩⟩
        · rw [if_neg c5] at H
          exact absurd H (by simp)
      · rw [if_neg c4] at H
        have c4b0 : decide (x5_1 < (t108.length : Int)) = false := decide_eq_false c4
        clear c4
        simp only [Option.some.injEq, Prod.mk.injEq] at H
        obtain ⟨rfl, rfl⟩ := H
        obtain ⟨Ao9, co9, eo9⟩ := Kd.R_slice HO_4.out
        subst eo9
        go_wp2
        go_ret2
        exact ⟨by first | rfl | (simp [errW_none, errW_some] <;> rfl) | (simp [*, errW_none, errW_some] <;> rfl), by repeat (first | (with_reducible first | exact HB.out | apply below_alloc | apply pw_below_drewN | apply below_drew1) | exact HB.out)⟩

end Go.Proofs.YtekijemacjpceaaDoor.Q
