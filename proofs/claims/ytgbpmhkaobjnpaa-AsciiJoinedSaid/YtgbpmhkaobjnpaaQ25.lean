-- printed by a program of the session's own; Lean checks it
import Derived.Test.YtgbpmhkaobjnpaaQ0
import Derived.Test.YtgbpmhkaobjnpaaQ7
import Derived.Test.YtgbpmhkaobjnpaaQ10
import Derived.Test.YtgbpmhkaobjnpaaQ14
import Derived.Test.YtgbpmhkaobjnpaaQ21
import Derived.Test.YtgbpmhkaobjnpaaQ22
import Derived.Test.YtgbpmhkaobjnpaaQ23
import Derived.Test.YtgbpmhkaobjnpaaQ24
namespace Go.Proofs.Ytgbpmhkaobjnpaa.Q
open Go.RowKit Go.Proofs.YtgbpmhkaobjnpaaW.PrintWords Go.Proofs.YtgbpmhkaobjnpaaW.PrintLast Go.Proofs.YtgbpmhkaobjnpaaW.PrintMore
attribute [local go_sem] max2_int min2_int max_two min_two max_three min_three max_four min_four   -- for this text's walks alone
set_option linter.unusedVariables false
set_option linter.unusedSimpArgs false

/-! ### cringlelaw01_AsciiParts: function 7 -/
mutual
def cringlelaw01_AsciiParts.l0 : Nat → ByteArray → List ByteArray → Int → Int → List ByteArray → Int → Int → Option (Bool)
  | 0, _, _, _, _, _, _, _ => none
  | k + 1, x0, x1, x2, x7, x17, x18, x19 => if x19 < x18 then (if 0 ≤ x19 then (if x19 < (x17.length : Int) then (cringlelaw01_AsciiParts.l0 k x0 x1 x2 (wrap64 (x7 + (mn ((rdOf ByteArray.empty x17 x19).size : Int) 3000))) x17 x18 (wrap64 (x19 + 1))) else (none)) else (none)) else (if x7 > 3000 then (cringlelaw01_AsciiParts.j1 k x0 x1 x2 true) else (cringlelaw01_AsciiParts.j1 k x0 x1 x2 (decide ((x1.length : Int) > 100))))
def cringlelaw01_AsciiParts.j1 : Nat → ByteArray → List ByteArray → Int → Bool → Option (Bool)
  | 0, _, _, _, _ => none
  | k + 1, x0, x1, x2, x35 => if x35 = true then ((cringlelaw01_alive.f k).bind fun t210 => (some t210)) else ((cringleref01_Join.f k x0 x1).bind fun t211 => ((cringlelaw01_long.f t211).bind fun t212 => (if t212 = true then ((cringlelaw01_alive.f k).bind fun t213 => (some t213)) else ((ascii_Join.f x0 x1).bind fun t214 => (if t214.toList = t211.toList then ((ascii_Split.f k t211 x2).bind fun t215 => ((cringleref01_Split.f k t211 x2).bind fun t218 => ((cringleref01_Texts.f k t215 t218).bind fun t221 => (if t221 = true then ((cringlelaw01_alive.f k).bind fun t222 => (some t222)) else (some false))))) else (some false))))))
end
def cringlelaw01_AsciiParts.f (k : Nat) (a0 : ByteArray) (l1 : List ByteArray) (a2 : Int) : Option (Bool) := if 0 ≤ (mn (l1.length : Int) 100) then (if (mn (l1.length : Int) 100) ≤ (l1.length : Int) then (cringlelaw01_AsciiParts.l0 k a0 l1 a2 (a0.size : Int) (l1.take ((mn (l1.length : Int) 100) : Int).toNat) ((l1.take ((mn (l1.length : Int) 100) : Int).toNat).length : Int) 0) else (none)) else (none)
theorem cringlelaw01_AsciiParts.mono_l : ∀ k, (∀ y0 y1 y2 y3 y4 y5 y6, LeO (cringlelaw01_AsciiParts.l0 k y0 y1 y2 y3 y4 y5 y6) (cringlelaw01_AsciiParts.l0 (k + 1) y0 y1 y2 y3 y4 y5 y6)) ∧ (∀ y0 y1 y2 y3, LeO (cringlelaw01_AsciiParts.j1 k y0 y1 y2 y3) (cringlelaw01_AsciiParts.j1 (k + 1) y0 y1 y2 y3))
  | 0 => ⟨fun _ _ _ _ _ _ _ r h => by simp [cringlelaw01_AsciiParts.l0] at h, fun _ _ _ _ r h => by simp [cringlelaw01_AsciiParts.j1] at h⟩
  | k + 1 => by
    obtain ⟨ih0, ih1⟩ := cringlelaw01_AsciiParts.mono_l k
    refine ⟨?_, ?_⟩
    · intro y0 y1 y2 y3 y4 y5 y6
      unfold cringlelaw01_AsciiParts.l0
      repeat' first
      | (with_reducible exact ih0 _ _ _ _ _ _ _)
      | (with_reducible exact ih1 _ _ _ _)
      | (with_reducible exact ascii_Split.mono _ _ _)
      | (with_reducible exact cringlelaw01_alive.mono _)
      | (with_reducible exact cringleref01_Join.mono _ _ _)
      | (with_reducible exact cringleref01_Split.mono _ _ _)
      | (with_reducible exact cringleref01_Texts.mono _ _ _)
      | (with_reducible exact LeO.refl _)
      | (with_reducible exact LeO.none _)
      | (with_reducible refine LeO.ite ?_ ?_)
      | (with_reducible refine LeO.bind ?_ (fun _ => ?_))
      | exact ih0 _ _ _ _ _ _ _
      | exact ih1 _ _ _ _
      | exact ascii_Split.mono _ _ _
      | exact cringlelaw01_alive.mono _
      | exact cringleref01_Join.mono _ _ _
      | exact cringleref01_Split.mono _ _ _
      | exact cringleref01_Texts.mono _ _ _
      | exact LeO.none _
      | refine LeO.ite ?_ ?_
      | refine LeO.bind ?_ (fun _ => ?_)
    · intro y0 y1 y2 y3
      unfold cringlelaw01_AsciiParts.j1
      repeat' first
      | (with_reducible exact ih0 _ _ _ _ _ _ _)
      | (with_reducible exact ih1 _ _ _ _)
      | (with_reducible exact ascii_Split.mono _ _ _)
      | (with_reducible exact cringlelaw01_alive.mono _)
      | (with_reducible exact cringleref01_Join.mono _ _ _)
      | (with_reducible exact cringleref01_Split.mono _ _ _)
      | (with_reducible exact cringleref01_Texts.mono _ _ _)
      | (with_reducible exact LeO.refl _)
      | (with_reducible exact LeO.none _)
      | (with_reducible refine LeO.ite ?_ ?_)
      | (with_reducible refine LeO.bind ?_ (fun _ => ?_))
      | exact ih0 _ _ _ _ _ _ _
      | exact ih1 _ _ _ _
      | exact ascii_Split.mono _ _ _
      | exact cringlelaw01_alive.mono _
      | exact cringleref01_Join.mono _ _ _
      | exact cringleref01_Split.mono _ _ _
      | exact cringleref01_Texts.mono _ _ _
      | exact LeO.none _
      | refine LeO.ite ?_ ?_
      | refine LeO.bind ?_ (fun _ => ?_)
theorem cringlelaw01_AsciiParts.mono : ∀ a0 a1 a2 k, LeO (cringlelaw01_AsciiParts.f k a0 a1 a2) (cringlelaw01_AsciiParts.f (k + 1) a0 a1 a2) := by
  intro a0 a1 a2 k
  obtain ⟨ih0, ih1⟩ := cringlelaw01_AsciiParts.mono_l k
  unfold cringlelaw01_AsciiParts.f
  repeat' first
      | (with_reducible exact ih0 _ _ _ _ _ _ _)
      | (with_reducible exact ih1 _ _ _ _)
      | (with_reducible exact ascii_Split.mono _ _ _)
      | (with_reducible exact cringlelaw01_alive.mono _)
      | (with_reducible exact cringleref01_Join.mono _ _ _)
      | (with_reducible exact cringleref01_Split.mono _ _ _)
      | (with_reducible exact cringleref01_Texts.mono _ _ _)
      | (with_reducible exact LeO.refl _)
      | (with_reducible exact LeO.none _)
      | (with_reducible refine LeO.ite ?_ ?_)
      | (with_reducible refine LeO.bind ?_ (fun _ => ?_))
      | exact ih0 _ _ _ _ _ _ _
      | exact ih1 _ _ _ _
      | exact ascii_Split.mono _ _ _
      | exact cringlelaw01_alive.mono _
      | exact cringleref01_Join.mono _ _ _
      | exact cringleref01_Split.mono _ _ _
      | exact cringleref01_Texts.mono _ _ _
      | exact LeO.none _
      | refine LeO.ite ?_ ?_
      | refine LeO.bind ?_ (fun _ => ?_)
set_option maxHeartbeats 8000000 in
set_option maxRecDepth 100000 in
theorem cringlelaw01_AsciiParts.calls (k : Nat) (a0 : ByteArray) (A1 : Option Addr) (c1 : Nat) (l1 : List ByteArray) (a2 : Int) (r : Bool) (w : World) (hr1 : Kd.C Kd.string w A1 l1.length l1) (hc1 : l1.length ≤ c1) (h : cringlelaw01_AsciiParts.f k a0 l1 a2 = some r) (htrue : Aside0 (r = true)) :
    Calls Try.prog 7 #[.string a0, .slice A1 l1.length c1, .int .u8 a2] w fun e w' => e = .returned (.bool r) ∧ Below w.heap.size w w' := by
  have HR1 := Aside0.mk hr1
  have HC1 := Aside0.mk hc1
  clear hr1 hc1
  have HB := Aside0.mk (Below.refl w.heap.size w)
  have H : (if 0 ≤ (mn (l1.length : Int) 100) then (if (mn (l1.length : Int) 100) ≤ (l1.length : Int) then (cringlelaw01_AsciiParts.l0 k a0 l1 a2 (a0.size : Int) (l1.take ((mn (l1.length : Int) 100) : Int).toNat) ((l1.take ((mn (l1.length : Int) 100) : Int).toNat).length : Int) 0) else (none)) else (none)) = some r := h
  clear h
  obtain ⟨ji4, hji4⟩ : ∃ j_ : Int, (mn (l1.length : Int) 100) = j_ := ⟨_, rfl⟩
  replace H : (if 0 ≤ (ji4) then (if (ji4) ≤ (l1.length : Int) then (cringlelaw01_AsciiParts.l0 k a0 l1 a2 (a0.size : Int) (l1.take ((ji4) : Int).toNat) ((l1.take ((ji4) : Int).toNat).length : Int) 0) else (none)) else (none)) = some r := by first | (rw [hji4] at H; exact H) | (simp only [hji4] at H ⊢; exact H)
  (try (have hji4h : ji4 ≤ 100 := by (rw [← hji4]; unfold mn; (repeat' split) <;> omega)))
  (try (have hji4g : ji4 ≤ 64 := by omega))
  (try (have hji4l : 0 ≤ ji4 := by (rw [← hji4]; unfold mn; (repeat' split) <;> omega)))
  (try (have hji4m : 0 ≤ ji4 := by omega))
  have hji4_ : (if 100 < (l1.length : Int) then 100 else (l1.length : Int)) = ji4 := hji4
  by_cases c5 : 0 ≤ (ji4)
  · rw [if_pos c5] at H
    have c5b0 := eq_true c5
    have c5b1 : decide (0 ≤ (ji4)) = true := decide_eq_true c5
    clear c5
    by_cases c6 : (ji4) ≤ (l1.length : Int)
    · rw [if_pos c6] at H
      have c6b0 := eq_true c6
      have c6b1 : decide ((ji4) ≤ (l1.length : Int)) = true := decide_eq_true c6
      clear c6
      have H' := Aside0.mk H
      clear H
      obtain ⟨i07, hi07, _, hsz7, _⟩ := info_parts info9
      obtain ⟨hcut7, hA7, hC7⟩ := print_take_of (P := Try.prog) Value.string (⟨#[]⟩ : ByteArray) 40 9 .i64 Try.underlying40 hi07 hsz7 A1 c1 l1 (ji4) (of_decide_eq_true (by first | (with_reducible assumption) | assumption)) (of_decide_eq_true (by first | (with_reducible assumption) | assumption)) HC1.out
      have HR208 := Aside0.mk (Kd.C_of_reads (h1 := fun _ => rfl) (hA7 _ (Kd.reads_of_C HR1.out)))
      have HC208 := Aside0.mk hC7
      clear hA7 hC7 hi07 hsz7
      go_enter Try.func7, Try.ntmps7
      go_wp2
      go_loopg [7, 19] k (fun kq v7 v19 w' => ∃ (x7_1 : Int) (x19_1 : Int), v7 = .int .i64 x7_1 ∧ v19 = .int .i64 x19_1 ∧ Aside0 (cringlelaw01_AsciiParts.l0 kq a0 l1 a2 x7_1 (l1.take ((ji4) : Int).toNat) ((l1.take ((ji4) : Int).toNat).length : Int) x19_1 = some r) ∧ Aside0 (kq ≤ k) ∧ Aside0 (Below w.heap.size w w'))
      case atStart => exact ⟨((a0.size : Int)), (0), (by first | rfl | (simp; done) | (simp [*]; done)), (by first | rfl | (simp; done) | (simp [*]; done)), H', ⟨Nat.le_refl _⟩, ⟨by repeat (first | (with_reducible first | exact HB.out | apply below_alloc | apply pw_below_drewN | apply below_drew1) | exact HB.out)⟩⟩
      case round =>
        clear H'
        try clear c1
        try clear p2
        try clear c5
        try clear c5b0
        try clear c5b1
        try clear c6
        try clear c6b0
        try clear c6b1
        try clear c7
        obtain ⟨x7_1, x19_1, rfl, rfl, HA, HK1, HB⟩ := hrel
        cases gk with
        | zero => exact absurd HA.out (by simp [cringlelaw01_AsciiParts.l0])
        | succ k1 =>
          have H := HA.out
          clear HA
          simp only [cringlelaw01_AsciiParts.l0] at H
          by_cases c8 : x19_1 < ((l1.take ((ji4) : Int).toNat).length : Int)
          · rw [if_pos c8] at H
            have c8b0 : decide (x19_1 < ((l1.take ((ji4) : Int).toNat).length : Int)) = true := decide_eq_true c8
            (try (have c8bt : decide (x19_1 < max ji4 0) = true := by (have hh := of_decide_eq_true c8b0; rw [List.length_take] at hh; have hl := hji4l; have hm := hji4m; exact decide_eq_true (by omega))))
            (try (have c8bu : (x19_1 < max ji4 0) = True := by (have hh := of_decide_eq_true c8b0; rw [List.length_take] at hh; have hl := hji4l; have hm := hji4m; exact eq_true (by omega))))
            clear c8
            by_cases c9 : 0 ≤ x19_1
            · rw [if_pos c9] at H
              have c9b0 : decide (0 ≤ x19_1) = true := decide_eq_true c9
              clear c9
              by_cases c10 : x19_1 < ((l1.take ((ji4) : Int).toNat).length : Int)
              · rw [if_pos c10] at H
                have c10b0 : decide (x19_1 < ((l1.take ((ji4) : Int).toNat).length : Int)) = true := decide_eq_true c10
                (try (have c10bt : decide (x19_1 < max ji4 0) = true := by (have hh := of_decide_eq_true c10b0; rw [List.length_take] at hh; have hl := hji4l; have hm := hji4m; exact decide_eq_true (by omega))))
                (try (have c10bu : (x19_1 < max ji4 0) = True := by (have hh := of_decide_eq_true c10b0; rw [List.length_take] at hh; have hl := hji4l; have hm := hji4m; exact eq_true (by omega))))
                clear c10
                obtain ⟨ji11, hji11⟩ : ∃ j_ : Int, (mn ((rdOf ByteArray.empty (l1.take ((ji4) : Int).toNat) x19_1).size : Int) 3000) = j_ := ⟨_, rfl⟩
                replace H : (cringlelaw01_AsciiParts.l0 k1 a0 l1 a2 (wrap64 (x7_1 + (ji11))) (l1.take ((ji4) : Int).toNat) ((l1.take ((ji4) : Int).toNat).length : Int) (wrap64 (x19_1 + 1))) = some r := by first | (rw [hji11] at H; exact H) | (simp only [hji11] at H ⊢; exact H)
                have hji11_ : (if 3000 < ((rdOf ByteArray.empty (l1.take ((ji4) : Int).toNat) x19_1).size : Int) then 3000 else ((rdOf ByteArray.empty (l1.take ((ji4) : Int).toNat) x19_1).size : Int)) = ji11 := hji11
                have H' := Aside0.mk H
                clear H
                have p209 : 0 ≤ (x19_1 : Int) := of_decide_eq_true (by first | (with_reducible assumption) | assumption)
                have q209 : x19_1 < ((l1.take ((ji4) : Int).toNat).length : Int) := of_decide_eq_true (by first | (with_reducible assumption) | assumption)
                obtain ⟨ad209, e209, hx209_0⟩ := Kd.at_string HR208.out x19_1 p209 q209
                cases e209
                replace hx209_0 := (HB.out.cell (World.block_lt_of_cell? w _ hx209_0)).trans hx209_0
                replace p209 := eq_true p209
                replace q209 := eq_true q209
                go_wp2
                go_roundg k1
                case measure => have := HK1.out; omega
                case rel => exact ⟨(wrap64 (x7_1 + (ji11))), (wrap64 (x19_1 + 1)), (by first | rfl | (simp; done) | (simp only [← hji11] <;> (first | rfl | simp)) | (simp [*]; done)), (by first | rfl | (simp; done) | (simp [*]; done)), H', ⟨by have := HK1.out; omega⟩, ⟨by repeat (first | (with_reducible first | exact HB.out | apply below_alloc | apply pw_below_drewN | apply below_drew1) | exact HB.out)⟩⟩
              · rw [if_neg c10] at H
                exact absurd H (by simp)
            · rw [if_neg c9] at H
              exact absurd H (by simp)
          · rw [if_neg c8] at H
            have c8b0 : decide (x19_1 < ((l1.take ((ji4) : Int).toNat).length : Int)) = false := decide_eq_false c8
            (try (have c8bt : decide (x19_1 < max ji4 0) = false := by (have hh := of_decide_eq_false c8b0; rw [List.length_take] at hh; have hl := hji4l; have hm := hji4m; exact decide_eq_false (by omega))))
            (try (have c8bu : (x19_1 < max ji4 0) = False := by (have hh := of_decide_eq_false c8b0; rw [List.length_take] at hh; have hl := hji4l; have hm := hji4m; exact eq_false (by omega))))
            clear c8
            have HC12 := Aside0.mk H
            clear H
            go_upto_region 7 with (fail)
            go_cut [35] (fun v35 wc => ∃ (kq : Nat) (x35_11 : Bool), v35 = .bool x35_11 ∧ Aside0 (cringlelaw01_AsciiParts.j1 kq a0 l1 a2 x35_11 = some r) ∧ Aside0 (kq ≤ k1) ∧ Aside0 (Below w.heap.size w wc))
            case first =>
              have H := HC12.out
              clear HC12
              by_cases c13 : x7_1 > 3000
              · rw [if_pos c13] at H
                have c13b0 : decide (3000 < x7_1) = true := decide_eq_true c13
                clear c13
                (first | rw [c13b0] | (simp only [i64_w, i32_w]; rw [c13b0]) | skip)
                have H' := Aside0.mk H
                clear H
                go_wp2
                go_meet
                case rel => exact ⟨_, (true), (by first | rfl | (simp; done) | (simp [*]; done)), H', ⟨by have := HK1.out; first | omega | exact Nat.le_refl _⟩, ⟨by repeat (first | (with_reducible first | exact HB.out | apply below_alloc | apply pw_below_drewN | apply below_drew1) | exact HB.out)⟩⟩
              · rw [if_neg c13] at H
                have c13b0 : decide (3000 < x7_1) = false := decide_eq_false c13
                clear c13
                (first | rw [c13b0] | (simp only [i64_w, i32_w]; rw [c13b0]) | skip)
                have H' := Aside0.mk H
                clear H
                go_wp2
                go_meet
                case rel => exact ⟨_, (decide ((l1.length : Int) > 100)), (by first | rfl | (simp; done) | (simp [*]; done)), H', ⟨by have := HK1.out; first | omega | exact Nat.le_refl _⟩, ⟨by repeat (first | (with_reducible first | exact HB.out | apply below_alloc | apply pw_below_drewN | apply below_drew1) | exact HB.out)⟩⟩
            case rest =>
              clear HC12
              try clear c1
              try clear p2
              try clear q2
              try clear hx2
              try clear c5
              try clear c5b0
              try clear c5b1
              try clear c6
              try clear c6b0
              try clear c6b1
              try clear p6
              try clear c7
              try clear c8
              try clear c8b0
              try clear c9
              try clear c9b0
              try clear c10
              try clear c10b0
              try clear c13
              try clear c13b0
              try clear hx209_0
              try clear p2
              try clear p209
              try clear q209
              obtain ⟨kq, x35_11, rfl, HA, HJ11, HB⟩ := hcut
              cases kq with
              | zero => exact absurd HA.out (by simp [cringlelaw01_AsciiParts.j1])
              | succ kj11 =>
                have H := HA.out
                clear HA
                simp only [cringlelaw01_AsciiParts.j1] at H
                by_cases c14 : x35_11 = true
                · subst c14
                  have H1 : ((cringlelaw01_alive.f kj11).bind fun t210 => (some t210)) = some r := by rw [if_pos rfl] at H; exact H
                  clear H
                  have H := H1
                  clear H1
                  replace H := Option.bind_eq_some_iff.mp H
                  obtain ⟨t210, A150, H⟩ := H
                  replace H : (some t210) = some r := H
                  have A15 := Aside0.mk A150
                  clear A150
                  obtain rfl := Option.some.inj H
                  go_wp2_with (first | ((with_reducible refine gate_callee (f := 15) rfl ?_); refine goesL_ (some 36) rfl rfl Try.func15 (by kernel_rfl) rfl #[] rfl (by (try simp only [List.map_toArray, List.map_cons, List.map_nil]); first | done | rfl | (simp only [List.length_drop, List.length_take]; rfl)) ?_; (with_reducible refine (cringlelaw01_alive.calls kj11  t210 _ A15.out).mono ?_); rintro e w16 ⟨rfl, hb⟩; refine ⟨_, rfl, ?_⟩; have n0_ := Aside0.mk (below_step (by repeat (first | (with_reducible first | exact HB.out | apply below_alloc | apply pw_below_drewN | apply below_drew1) | exact HB.out)) hb); clear HB; have HB := n0_; clear n0_; (try clear hb); (try clear hb2); (try clear hk); (try clear hi)))
                  go_ret
                  exact ⟨by first | rfl | (simp [errW_none, errW_some] <;> rfl) | (simp only [← hji4]; first | rfl | (simp [errW_none, errW_some] <;> rfl)) | (simp [*, errW_none, errW_some] <;> rfl), by repeat (first | (with_reducible first | exact HB.out | apply below_alloc | apply pw_below_drewN | apply below_drew1) | exact HB.out)⟩
                · replace c14 := Bool.eq_false_iff.mpr c14
                  subst c14
                  have H1 : ((cringleref01_Join.f kj11 a0 l1).bind fun t211 => ((cringlelaw01_long.f t211).bind fun t212 => (if t212 = true then ((cringlelaw01_alive.f kj11).bind fun t213 => (some t213)) else ((ascii_Join.f a0 l1).bind fun t214 => (if t214.toList = t211.toList then ((ascii_Split.f kj11 t211 a2).bind fun t215 => ((cringleref01_Split.f kj11 t211 a2).bind fun t218 => ((cringleref01_Texts.f kj11 t215 t218).bind fun t221 => (if t221 = true then ((cringlelaw01_alive.f kj11).bind fun t222 => (some t222)) else (some false))))) else (some false)))))) = some r := by rw [if_neg (show ¬ (false = true) by decide)] at H; exact H
                  clear H
                  have H := H1
                  clear H1
                  replace H := Option.bind_eq_some_iff.mp H
                  obtain ⟨t211, A170, H⟩ := H
                  replace H : ((cringlelaw01_long.f t211).bind fun t212 => (if t212 = true then ((cringlelaw01_alive.f kj11).bind fun t213 => (some t213)) else ((ascii_Join.f a0 l1).bind fun t214 => (if t214.toList = t211.toList then ((ascii_Split.f kj11 t211 a2).bind fun t215 => ((cringleref01_Split.f kj11 t211 a2).bind fun t218 => ((cringleref01_Texts.f kj11 t215 t218).bind fun t221 => (if t221 = true then ((cringlelaw01_alive.f kj11).bind fun t222 => (some t222)) else (some false))))) else (some false))))) = some r := H
                  have A17 := Aside0.mk A170
                  clear A170
                  replace H := Option.bind_eq_some_iff.mp H
                  obtain ⟨t212, A180, H⟩ := H
                  replace H : (if t212 = true then ((cringlelaw01_alive.f kj11).bind fun t213 => (some t213)) else ((ascii_Join.f a0 l1).bind fun t214 => (if t214.toList = t211.toList then ((ascii_Split.f kj11 t211 a2).bind fun t215 => ((cringleref01_Split.f kj11 t211 a2).bind fun t218 => ((cringleref01_Texts.f kj11 t215 t218).bind fun t221 => (if t221 = true then ((cringlelaw01_alive.f kj11).bind fun t222 => (some t222)) else (some false))))) else (some false)))) = some r := H
                  have A18 := Aside0.mk A180
                  clear A180
                  by_cases c19 : t212 = true
                  · subst c19
                    have H1 : ((cringlelaw01_alive.f kj11).bind fun t213 => (some t213)) = some r := by rw [if_pos rfl] at H; exact H
                    clear H
                    have H := H1
                    clear H1
                    replace H := Option.bind_eq_some_iff.mp H
                    obtain ⟨t213, A200, H⟩ := H
                    replace H : (some t213) = some r := H
                    have A20 := Aside0.mk A200
                    clear A200
                    obtain rfl := Option.some.inj H
                    go_wp2_with (first | ((with_reducible refine gate_callee (f := 25) rfl ?_); refine goesL_ (some 39) rfl rfl Try.func25 (by kernel_rfl) rfl #[.string a0, .slice A1 l1.length c1] rfl (by (try simp only [List.map_toArray, List.map_cons, List.map_nil]); first | done | rfl | (simp only [List.length_drop, List.length_take]; rfl)) ?_; (with_reducible refine (cringleref01_Join.calls kj11 a0 _ _ l1 t211 _ ?side1 ?side2 A17.out).mono ?_); (case side1 => repeat (first | exact (Kd.C_below HR1.out HB.out) | (with_reducible refine Kd.C_alloc ?_ _) | (with_reducible refine Kd.C_drewN ?_ _) | (with_reducible refine Kd.C_drew ?_))); (case side2 => exact HC1.out); rintro e w' ⟨rfl, ⟨nd, rfl⟩⟩; refine ⟨_, rfl, ?_⟩) | ((with_reducible refine gate_callee (f := 20) rfl ?_); refine goesL_ (some 41) rfl rfl Try.func20 (by kernel_rfl) rfl #[.string t211] rfl (by (try simp only [List.map_toArray, List.map_cons, List.map_nil]); first | done | rfl | (simp only [List.length_drop, List.length_take]; rfl)) ?_; (with_reducible refine (cringlelaw01_long.calls t211 true _ A18.out).mono ?_); rintro e w' ⟨rfl, ⟨nd, rfl⟩⟩; refine ⟨_, rfl, ?_⟩) | ((with_reducible refine gate_callee (f := 15) rfl ?_); refine goesL_ (some 42) rfl rfl Try.func15 (by kernel_rfl) rfl #[] rfl (by (try simp only [List.map_toArray, List.map_cons, List.map_nil]); first | done | rfl | (simp only [List.length_drop, List.length_take]; rfl)) ?_; (with_reducible refine (cringlelaw01_alive.calls kj11  t213 _ A20.out).mono ?_); rintro e w21 ⟨rfl, hb⟩; refine ⟨_, rfl, ?_⟩; have n0_ := Aside0.mk (below_step (by repeat (first | (with_reducible first | exact HB.out | apply below_alloc | apply pw_below_drewN | apply below_drew1) | exact HB.out)) hb); clear HB; have HB := n0_; clear n0_; (try clear hb); (try clear hb2); (try clear hk); (try clear hi)))
                    go_ret
                    exact ⟨by first | rfl | (simp [errW_none, errW_some] <;> rfl) | (simp only [← hji4]; first | rfl | (simp [errW_none, errW_some] <;> rfl)) | (simp [*, errW_none, errW_some] <;> rfl), by repeat (first | (with_reducible first | exact HB.out | apply below_alloc | apply pw_below_drewN | apply below_drew1) | exact HB.out)⟩
                  · replace c19 := Bool.eq_false_iff.mpr c19
                    subst c19
                    have H1 : ((ascii_Join.f a0 l1).bind fun t214 => (if t214.toList = t211.toList then ((ascii_Split.f kj11 t211 a2).bind fun t215 => ((cringleref01_Split.f kj11 t211 a2).bind fun t218 => ((cringleref01_Texts.f kj11 t215 t218).bind fun t221 => (if t221 = true then ((cringlelaw01_alive.f kj11).bind fun t222 => (some t222)) else (some false))))) else (some false))) = some r := by rw [if_neg (show ¬ (false = true) by decide)] at H; exact H
                    clear H
                    have H := H1
                    clear H1
                    replace H := Option.bind_eq_some_iff.mp H
                    obtain ⟨t214, A220, H⟩ := H
                    replace H : (if t214.toList = t211.toList then ((ascii_Split.f kj11 t211 a2).bind fun t215 => ((cringleref01_Split.f kj11 t211 a2).bind fun t218 => ((cringleref01_Texts.f kj11 t215 t218).bind fun t221 => (if t221 = true then ((cringlelaw01_alive.f kj11).bind fun t222 => (some t222)) else (some false))))) else (some false)) = some r := H
                    have A22 := Aside0.mk A220
                    clear A220
                    by_cases c23 : t214.toList = t211.toList
                    · rw [if_pos c23] at H
                      have c23b0 : (t214.toList == t211.toList) = true := beq_iff_eq.mpr c23
                      have c23b1 : (t214.toList != t211.toList) = false := bne_eq_false_iff_eq.mpr c23
                      clear c23
                      replace H := Option.bind_eq_some_iff.mp H
                      obtain ⟨t215, A240, H⟩ := H
                      replace H : ((cringleref01_Split.f kj11 t211 a2).bind fun t218 => ((cringleref01_Texts.f kj11 t215 t218).bind fun t221 => (if t221 = true then ((cringlelaw01_alive.f kj11).bind fun t222 => (some t222)) else (some false)))) = some r := H
                      have A24 := Aside0.mk A240
                      clear A240
                      replace H := Option.bind_eq_some_iff.mp H
                      obtain ⟨t218, A250, H⟩ := H
                      replace H : ((cringleref01_Texts.f kj11 t215 t218).bind fun t221 => (if t221 = true then ((cringlelaw01_alive.f kj11).bind fun t222 => (some t222)) else (some false))) = some r := H
                      have A25 := Aside0.mk A250
                      clear A250
                      replace H := Option.bind_eq_some_iff.mp H
                      obtain ⟨t221, A260, H⟩ := H
                      replace H : (if t221 = true then ((cringlelaw01_alive.f kj11).bind fun t222 => (some t222)) else (some false)) = some r := H
                      have A26 := Aside0.mk A260
                      clear A260
                      by_cases c27 : t221 = true
                      · subst c27
                        have H1 : ((cringlelaw01_alive.f kj11).bind fun t222 => (some t222)) = some r := by rw [if_pos rfl] at H; exact H
                        clear H
                        have H := H1
                        clear H1
                        replace H := Option.bind_eq_some_iff.mp H
                        obtain ⟨t222, A280, H⟩ := H
                        replace H : (some t222) = some r := H
                        have A28 := Aside0.mk A280
                        clear A280
                        obtain rfl := Option.some.inj H
                        go_wp2_with (first | ((with_reducible refine gate_callee (f := 25) rfl ?_); refine goesL_ (some 39) rfl rfl Try.func25 (by kernel_rfl) rfl #[.string a0, .slice A1 l1.length c1] rfl (by (try simp only [List.map_toArray, List.map_cons, List.map_nil]); first | done | rfl | (simp only [List.length_drop, List.length_take]; rfl)) ?_; (with_reducible refine (cringleref01_Join.calls kj11 a0 _ _ l1 t211 _ ?side1 ?side2 A17.out).mono ?_); (case side1 => repeat (first | exact (Kd.C_below HR1.out HB.out) | (with_reducible refine Kd.C_alloc ?_ _) | (with_reducible refine Kd.C_drewN ?_ _) | (with_reducible refine Kd.C_drew ?_))); (case side2 => exact HC1.out); rintro e w' ⟨rfl, ⟨nd, rfl⟩⟩; refine ⟨_, rfl, ?_⟩) | ((with_reducible refine gate_callee (f := 20) rfl ?_); refine goesL_ (some 41) rfl rfl Try.func20 (by kernel_rfl) rfl #[.string t211] rfl (by (try simp only [List.map_toArray, List.map_cons, List.map_nil]); first | done | rfl | (simp only [List.length_drop, List.length_take]; rfl)) ?_; (with_reducible refine (cringlelaw01_long.calls t211 false _ A18.out).mono ?_); rintro e w' ⟨rfl, ⟨nd, rfl⟩⟩; refine ⟨_, rfl, ?_⟩) | ((with_reducible refine gate_callee (f := 26) rfl ?_); refine goesL_ (some 45) rfl rfl Try.func26 (by kernel_rfl) rfl #[.string a0, .slice A1 l1.length c1] rfl (by (try simp only [List.map_toArray, List.map_cons, List.map_nil]); first | done | rfl | (simp only [List.length_drop, List.length_take]; rfl)) ?_; (with_reducible refine (ascii_Join.calls a0 _ _ l1 t214 _ ?side1 ?side2 A22.out).mono ?_); (case side1 => repeat (first | exact (Kd.C_below HR1.out (by repeat (first | (with_reducible first | exact HB.out | apply below_alloc | apply pw_below_drewN | apply below_drew1) | exact HB.out))) | (with_reducible refine Kd.C_alloc ?_ _) | (with_reducible refine Kd.C_drewN ?_ _) | (with_reducible refine Kd.C_drew ?_))); (case side2 => exact HC1.out); rintro e w29 ⟨rfl, hb⟩; refine ⟨_, rfl, ?_⟩; have n0_ := Aside0.mk (below_step (by repeat (first | (with_reducible first | exact HB.out | apply below_alloc | apply pw_below_drewN | apply below_drew1) | exact HB.out)) hb); clear HB; have HB := n0_; clear n0_; (try clear hb); (try clear hb2); (try clear hk); (try clear hi)) | (go_at_call 28; (with_reducible refine (ascii_Split.calls kj11 t211 a2 t215 _ A24.out).mono ?_); rintro e w30 ⟨v216, rfl, ho0, hb⟩; have n0_ := Aside0.mk (Kd.R_lower ho0 (below_size (by repeat (first | (with_reducible first | exact HB.out | apply below_alloc | apply pw_below_drewN | apply below_drew1) | exact HB.out)))); have n1_ := Aside0.mk (below_step (by repeat (first | (with_reducible first | exact HB.out | apply below_alloc | apply pw_below_drewN | apply below_drew1) | exact HB.out)) hb); clear HB; have HO217 := n0_; have HB := n1_; clear n0_ n1_; (try clear hb); (try clear hb2); (try clear hk); (try clear hi); (try clear ho0)) | (go_at_call 29; (with_reducible refine (cringleref01_Split.calls kj11 t211 a2 t218 _ A25.out).mono ?_); rintro e w31 ⟨v219, rfl, ho0, hb⟩; have n0_ := Aside0.mk (Kd.R_elder' (by (with_reducible repeat (first | apply Kd.R_alloc | apply Kd.R_drewN | apply Kd.R_drew)); exact HO217.out) (Kd.R_base ho0) hb); have n1_ := Aside0.mk (Kd.R_lower (Kd.R_new' ho0 (Kd.R_lt (by (with_reducible repeat (first | apply Kd.R_alloc | apply Kd.R_drewN | apply Kd.R_drew)); exact HO217.out))) (below_size (by repeat (first | (with_reducible first | exact HB.out | apply below_alloc | apply pw_below_drewN | apply below_drew1) | exact HB.out)))); have n2_ := Aside0.mk (below_step (by repeat (first | (with_reducible first | exact HB.out | apply below_alloc | apply pw_below_drewN | apply below_drew1) | exact HB.out)) hb); clear HO217; clear HB; have HO217 := n0_; have HO220 := n1_; have HB := n2_; clear n0_ n1_ n2_; (try clear hb); (try clear hb2); (try clear hk); (try clear hi); (try clear ho0); obtain ⟨Ao32, co32, eo32⟩ := Kd.R_slice HO217.out; subst eo32; obtain ⟨Ao33, co33, eo33⟩ := Kd.R_slice HO220.out; subst eo33) | (go_at_call 27; (with_reducible refine (cringleref01_Texts.calls kj11 _ _ t215 _ _ t218 true _ ?side1 ?side2 ?side3 ?side4 A26.out).mono ?_); (case side1 => repeat (first | exact (Kd.R_reads' HO217.out).2.2 | (with_reducible refine Kd.C_alloc ?_ _) | (with_reducible refine Kd.C_drewN ?_ _) | (with_reducible refine Kd.C_drew ?_))); (case side2 => exact (Kd.R_reads' HO217.out).2.1); (case side3 => repeat (first | exact (Kd.R_reads' HO220.out).2.2 | (with_reducible refine Kd.C_alloc ?_ _) | (with_reducible refine Kd.C_drewN ?_ _) | (with_reducible refine Kd.C_drew ?_))); (case side4 => exact (Kd.R_reads' HO220.out).2.1); rintro e w' ⟨rfl, ⟨nd, rfl⟩⟩) | (go_at_call 15; (with_reducible refine (cringlelaw01_alive.calls kj11  t222 _ A28.out).mono ?_); rintro e w34 ⟨rfl, hb⟩; have n0_ := Aside0.mk (Kd.R_below (by (with_reducible repeat (first | apply Kd.R_alloc | apply Kd.R_drewN | apply Kd.R_drew)); exact HO217.out) hb); have n1_ := Aside0.mk (Kd.R_below (by (with_reducible repeat (first | apply Kd.R_alloc | apply Kd.R_drewN | apply Kd.R_drew)); exact HO220.out) hb); have n2_ := Aside0.mk (below_step (by repeat (first | (with_reducible first | exact HB.out | apply below_alloc | apply pw_below_drewN | apply below_drew1) | exact HB.out)) hb); clear HO217; clear HO220; clear HB; have HO217 := n0_; have HO220 := n1_; have HB := n2_; clear n0_ n1_ n2_; (try clear hb); (try clear hb2); (try clear hk); (try clear hi)))
                        go_ret
                        exact ⟨by first | rfl | (simp [errW_none, errW_some] <;> rfl) | (simp only [← hji4]; first | rfl | (simp [errW_none, errW_some] <;> rfl)) | (simp [*, errW_none, errW_some] <;> rfl), by repeat (first | (with_reducible first | exact HB.out | apply below_alloc | apply pw_below_drewN | apply below_drew1) | exact HB.out)⟩
                      · replace c27 := Bool.eq_false_iff.mpr c27
                        subst c27
                        have H1 : (some false) = some r := by rw [if_neg (show ¬ (false = true) by decide)] at H; exact H
                        clear H
                        have H := H1
                        clear H1
                        exact absurd (Option.some.inj H) (by rw [htrue.out]; decide)
                    · rw [if_neg c23] at H
                      have c23b0 : (t214.toList == t211.toList) = false := beq_eq_false_iff_ne.mpr c23
                      have c23b1 : (t214.toList != t211.toList) = true := bne_iff_ne.mpr c23
                      exact absurd (Option.some.inj H) (by rw [htrue.out]; decide)
    · rw [if_neg c6] at H
      exact absurd H (by simp)
  · rw [if_neg c5] at H
    exact absurd H (by simp)

end Go.Proofs.Ytgbpmhkaobjnpaa.Q
