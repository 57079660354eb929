-- printed by a program of the session's own; Lean checks it
import Derived.Test.YtfoikdjffemhbaaDoorQ0
import Derived.Test.YtfoikdjffemhbaaDoorQ1
import Derived.Test.YtfoikdjffemhbaaDoorQ2
import Derived.Test.YtfoikdjffemhbaaDoorQ3
import Derived.Test.YtfoikdjffemhbaaDoorQ6
namespace Go.Proofs.YtfoikdjffemhbaaDoor.Q
open Go.RowKit Go.Proofs.YtfoikdjffemhbaaDoorW.PrintWords Go.Proofs.YtfoikdjffemhbaaDoorW.PrintLast Go.Proofs.YtfoikdjffemhbaaDoorW.PrintMore
attribute [local go_sem] max2_int min2_int max_two min_two max_three min_three max_four min_four   -- for this text's walks alone
set_option linter.unusedVariables false
set_option linter.unusedSimpArgs false

/-! ### cringlelaw06.DateNext -/
def cringlelaw06_DateNext.rest (k : Nat) (n y m d : Int) : List (Int × Int × Int) → Option Bool
  | [] => if y = 9999 then (if m = 12 then (if d = 31 then cringlelaw06_alive.f k else some false) else some false) else some false
  | x :: r => (date_Days.f x.1 x.2.1 x.2.2).bind fun q => if q.2 = 0 then (if q.1 = wrap64 (n + 1) then cringlelaw06_alive.f k else some false) else cringlelaw06_DateNext.rest k n y m d r
def cringlelaw06_DateNext.f (k : Nat) (y m d : Int) : Option Bool := (date_Days.f y m d).bind fun a => if a.2 = 0 then (date_Civil.f k a.1).bind fun c => if c.1 = y then (if c.2.1 = m then (if c.2.2.1 = d then (if c.2.2.2 = 0 then cringlelaw06_DateNext.rest k a.1 y m d [(y, m, wrap64 (d + 1)), (y, wrap64 (m + 1), 1), (wrap64 (y + 1), 1, 1)] else some false) else some false) else some false) else some false else (if a.1 = 0 then cringlelaw06_alive.f k else some false)
set_option maxHeartbeats 8000000 in
set_option maxRecDepth 100000 in
theorem cringlelaw06_DateNext.calls (k : Nat) (a0 : Int) (a1 : Int) (a2 : Int) (r : Bool) (w : World) (h : cringlelaw06_DateNext.f k a0 a1 a2 = some r) (htrue : Aside0 (r = true)) :
    Calls Tryd.prog 5 #[.int .i64 a0, .int .i64 a1, .int .i64 a2] w fun e w' => e = .returned (.bool r) ∧ Below w.heap.size w w' := by
  obtain rfl := htrue.out
  clear htrue
  unfold cringlelaw06_DateNext.f at h
  obtain ⟨⟨n, e1⟩, hd, h⟩ := Option.bind_eq_some_iff.mp h
  simp only [] at h
  have HD := Aside0.mk hd
  clear hd
  go_enter Tryd.func5, Tryd.ntmps5
  go_wp2_with fail
  refine (date_Days.calls a0 a1 a2 n e1 _ HD.out).mono ?_
  rintro e w1 ⟨rfl, hw⟩
  have HB1 := Aside0.mk hw
  clear hw
  by_cases c1 : e1 = 0
  case neg =>
    rw [if_neg c1] at h
    have c1b : (e1 != 0) = true := by simpa using c1
    by_cases c2 : n = 0
    case neg => rw [if_neg c2] at h; cases h
    rw [if_pos c2] at h
    have c2b : (n == 0) = true := by simpa using c2
    have HL := Aside0.mk h
    clear h
    go_wp2_with fail
    refine (cringlelaw06_alive.calls k true _ HL.out).mono ?_
    rintro e w2 ⟨rfl, hw⟩
    have HB2 := Aside0.mk (below_step HB1.out hw)
    clear hw
    go_wp2_with fail
    go_ret
    exact ⟨rfl, HB2.out⟩
  rw [if_pos c1] at h
  subst c1
  obtain ⟨⟨y, m, d, e2⟩, hc, h⟩ := Option.bind_eq_some_iff.mp h
  simp only [] at h
  have HC := Aside0.mk hc
  clear hc
  by_cases d1 : y = a0
  case neg => rw [if_neg d1] at h; cases h
  by_cases d2 : m = a1
  case neg => rw [if_pos d1, if_neg d2] at h; cases h
  by_cases d3 : d = a2
  case neg => rw [if_pos d1, if_pos d2, if_neg d3] at h; cases h
  by_cases d4 : e2 = 0
  case neg => rw [if_pos d1, if_pos d2, if_pos d3, if_neg d4] at h; cases h
  rw [if_pos d1, if_pos d2, if_pos d3, if_pos d4] at h
  subst d1 d2 d3 d4
  have H := Aside0.mk h
  clear h
  go_wp2_with fail
  refine (date_Civil.calls k n _ _ _ _ _ HC.out).mono ?_
  rintro e w2 ⟨rfl, hw⟩
  have HB2 := Aside0.mk (below_step HB1.out hw)
  clear hw HB1
  go_wp2_with fail
  have HA := Aside0.mk (Blk.At.new w2 #[.int .i64 y, .int .i64 m, .int .i64 (wrap64 (d + 1)), .int .i64 y, .int .i64 (wrap64 (m + 1)), .int .i64 1, .int .i64 (wrap64 (y + 1)), .int .i64 1, .int .i64 1] 35)
  have HB3 := Aside0.mk (below_alloc HB2.out (.cells #[.int .i64 y, .int .i64 m, .int .i64 (wrap64 (d + 1)), .int .i64 y, .int .i64 (wrap64 (m + 1)), .int .i64 1, .int .i64 (wrap64 (y + 1)), .int .i64 1, .int .i64 1] 35))
  clear HB2
  generalize w2.alloc (.cells #[.int .i64 y, .int .i64 m, .int .i64 (wrap64 (d + 1)), .int .i64 y, .int .i64 (wrap64 (m + 1)), .int .i64 1, .int .i64 (wrap64 (y + 1)), .int .i64 1, .int .i64 1] 35) = w3 at HA HB3 ⊢
  generalize w2.heap.size = g at HA ⊢
  go_loopw [71] (fun j wr => ∃ i : Nat, i ≤ 3 ∧ j = .int .i64 i ∧ Aside0 (Blk.At g #[.int .i64 y, .int .i64 m, .int .i64 (wrap64 (d + 1)), .int .i64 y, .int .i64 (wrap64 (m + 1)), .int .i64 1, .int .i64 (wrap64 (y + 1)), .int .i64 1, .int .i64 1] 35 wr) ∧ Aside0 (Below w.heap.size w wr) ∧ Aside0 (cringlelaw06_DateNext.rest k n y m d ([(y, m, wrap64 (d + 1)), (y, wrap64 (m + 1), 1), (wrap64 (y + 1), 1, 1)].drop i) = some true)) (fun j _ => 3 - (intOf j).toNat)
  case atStart => exact ⟨0, by omega, rfl, HA, HB3, H⟩
  case round =>
    clear HA HB3 H
    obtain ⟨i, hi, rfl, HA, HB, H⟩ := hrel
    rcases (by omega : i = 3 ∨ i = 0 ∨ i = 1 ∨ i = 2) with rfl | rfl | rfl | rfl
    · have h := H.out
      simp only [List.drop, cringlelaw06_DateNext.rest] at h
      by_cases z1 : y = 9999
      case neg => rw [if_neg z1] at h; cases h
      by_cases z2 : m = 12
      case neg => rw [if_pos z1, if_neg z2] at h; cases h
      by_cases z3 : d = 31
      case neg => rw [if_pos z1, if_pos z2, if_neg z3] at h; cases h
      rw [if_pos z1, if_pos z2, if_pos z3] at h
      have z1b : (y == 9999) = true := by simpa using z1
      have z2b : (m == 12) = true := by simpa using z2
      have z3b : (d == 31) = true := by simpa using z3
      have HL := Aside0.mk h
      clear h z1 z2 z3
      go_wp2_with fail
      refine (cringlelaw06_alive.calls k true _ HL.out).mono ?_
      rintro e w4 ⟨rfl, hw⟩
      have HB4 := Aside0.mk (below_step HB.out hw)
      clear hw
      go_wp2_with fail
      go_ret
      exact ⟨rfl, HB4.out⟩
    · have h := H.out
      simp only [List.drop, cringlelaw06_DateNext.rest] at h
      obtain ⟨⟨q1, q2⟩, hq, h⟩ := Option.bind_eq_some_iff.mp h
      simp only [] at h
      have HQ := Aside0.mk hq
      clear hq
      have x0 : wr.cell? ⟨g, 0, none⟩ = some (.int .i64 y) := HA.out.cell 0
      have x1 : wr.cell? ⟨g, 1, none⟩ = some (.int .i64 m) := HA.out.cell 1
      have x2 : wr.cell? ⟨g, 2, none⟩ = some (.int .i64 (wrap64 (d + 1))) := HA.out.cell 2
      go_wp2_with fail
      refine (date_Days.calls y m (wrap64 (d + 1)) q1 q2 _ HQ.out).mono ?_
      rintro e w4 ⟨rfl, hw⟩
      have HA4 := Aside0.mk (Blk.At.below (HA.out.alloc (.cells #[.int .i64 y, .int .i64 m, .int .i64 (wrap64 (d + 1))] 35)) hw (Nat.lt_of_lt_of_le HA.out.lt (below_size (below_alloc (Below.refl _ wr) (.cells #[.int .i64 y, .int .i64 m, .int .i64 (wrap64 (d + 1))] 35)))))
      have HB4 := Aside0.mk (below_step (below_alloc HB.out (.cells #[.int .i64 y, .int .i64 m, .int .i64 (wrap64 (d + 1))] 35)) hw)
      clear hw x0 x1 x2 HA HB
      by_cases g1 : q2 = 0
      · rw [if_pos g1] at h
        by_cases g2 : q1 = wrap64 (n + 1)
        case neg => rw [if_neg g2] at h; cases h
        rw [if_pos g2] at h
        have g1b : (q2 == 0) = true := by simpa using g1
        have g2b : (q1 == wrap64 (n + 1)) = true := by simpa using g2
        have HL := Aside0.mk h
        clear h g1 g2
        go_wp2_with fail
        refine (cringlelaw06_alive.calls k true _ HL.out).mono ?_
        rintro e w5 ⟨rfl, hw⟩
        have HB5 := Aside0.mk (below_step HB4.out hw)
        clear hw
        go_wp2_with fail
        go_ret
        exact ⟨rfl, HB5.out⟩
      · rw [if_neg g1] at h
        have g1b : (q2 == 0) = false := by simpa using g1
        have H' := Aside0.mk h
        clear h H
        go_wp2_with fail
        go_round
        case rel => exact ⟨1, by omega, rfl, HA4, HB4, H'⟩
        case measure => simp [intOf]
    · have h := H.out
      simp only [List.drop, cringlelaw06_DateNext.rest] at h
      obtain ⟨⟨q1, q2⟩, hq, h⟩ := Option.bind_eq_some_iff.mp h
      simp only [] at h
      have HQ := Aside0.mk hq
      clear hq
      have x0 : wr.cell? ⟨g, 3, none⟩ = some (.int .i64 y) := HA.out.cell 3
      have x1 : wr.cell? ⟨g, 4, none⟩ = some (.int .i64 (wrap64 (m + 1))) := HA.out.cell 4
      have x2 : wr.cell? ⟨g, 5, none⟩ = some (.int .i64 1) := HA.out.cell 5
      go_wp2_with fail
      refine (date_Days.calls y (wrap64 (m + 1)) 1 q1 q2 _ HQ.out).mono ?_
      rintro e w4 ⟨rfl, hw⟩
      have HA4 := Aside0.mk (Blk.At.below (HA.out.alloc (.cells #[.int .i64 y, .int .i64 (wrap64 (m + 1)), .int .i64 1] 35)) hw (Nat.lt_of_lt_of_le HA.out.lt (below_size (below_alloc (Below.refl _ wr) (.cells #[.int .i64 y, .int .i64 (wrap64 (m + 1)), .int .i64 1] 35)))))
      have HB4 := Aside0.mk (below_step (below_alloc HB.out (.cells #[.int .i64 y, .int .i64 (wrap64 (m + 1)), .int .i64 1] 35)) hw)
      clear hw x0 x1 x2 HA HB
      by_cases g1 : q2 = 0
      · rw [if_pos g1] at h
        by_cases g2 : q1 = wrap64 (n + 1)
        case neg => rw [if_neg g2] at h; cases h
        rw [if_pos g2] at h
        have g1b : (q2 == 0) = true := by simpa using g1
        have g2b : (q1 == wrap64 (n + 1)) = true := by simpa using g2
        have HL := Aside0.mk h
        clear h g1 g2
        go_wp2_with fail
        refine (cringlelaw06_alive.calls k true _ HL.out).mono ?_
        rintro e w5 ⟨rfl, hw⟩
        have HB5 := Aside0.mk (below_step HB4.out hw)
        clear hw
        go_wp2_with fail
        go_ret
        exact ⟨rfl, HB5.out⟩
      · rw [if_neg g1] at h
        have g1b : (q2 == 0) = false := by simpa using g1
        have H' := Aside0.mk h
        clear h H
        go_wp2_with fail
        go_round
        case rel => exact ⟨2, by omega, rfl, HA4, HB4, H'⟩
        case measure => simp [intOf]
    · have h := H.out
      simp only [List.drop, cringlelaw06_DateNext.rest] at h
      obtain ⟨⟨q1, q2⟩, hq, h⟩ := Option.bind_eq_some_iff.mp h
      simp only [] at h
      have HQ := Aside0.mk hq
      clear hq
      have x0 : wr.cell? ⟨g, 6, none⟩ = some (.int .i64 (wrap64 (y + 1))) := HA.out.cell 6
      have x1 : wr.cell? ⟨g, 7, none⟩ = some (.int .i64 1) := HA.out.cell 7
      have x2 : wr.cell? ⟨g, 8, none⟩ = some (.int .i64 1) := HA.out.cell 8
      go_wp2_with fail
      refine (date_Days.calls (wrap64 (y + 1)) 1 1 q1 q2 _ HQ.out).mono ?_
      rintro e w4 ⟨rfl, hw⟩
      have HA4 := Aside0.mk (Blk.At.below (HA.out.alloc (.cells #[.int .i64 (wrap64 (y + 1)), .int .i64 1, .int .i64 1] 35)) hw (Nat.lt_of_lt_of_le HA.out.lt (below_size (below_alloc (Below.refl _ wr) (.cells #[.int .i64 (wrap64 (y + 1)), .int .i64 1, .int .i64 1] 35)))))
      have HB4 := Aside0.mk (below_step (below_alloc HB.out (.cells #[.int .i64 (wrap64 (y + 1)), .int .i64 1, .int .i64 1] 35)) hw)
      clear hw x0 x1 x2 HA HB
      by_cases g1 : q2 = 0
      · rw [if_pos g1] at h
        by_cases g2 : q1 = wrap64 (n + 1)
        case neg => rw [if_neg g2] at h; cases h
        rw [if_pos g2] at h
        have g1b : (q2 == 0) = true := by simpa using g1
        have g2b : (q1 == wrap64 (n + 1)) = true := by simpa using g2
        have HL := Aside0.mk h
        clear h g1 g2
        go_wp2_with fail
        refine (cringlelaw06_alive.calls k true _ HL.out).mono ?_
        rintro e w5 ⟨rfl, hw⟩
        have HB5 := Aside0.mk (below_step HB4.out hw)
        clear hw
        go_wp2_with fail
        go_ret
        exact ⟨rfl, HB5.out⟩
      · rw [if_neg g1] at h
        have g1b : (q2 == 0) = false := by simpa using g1
        have H' := Aside0.mk h
        clear h H
        go_wp2_with fail
        go_round
        case rel => exact ⟨3, by omega, rfl, HA4, HB4, H'⟩
        case measure => simp [intOf]

/-! ### cringlelaw06_DateBack: function 6 -/
def cringlelaw06_DateBack.f (k : Nat) (a0 : Int) : Option (Bool) := (date_Format.f k a0).bind fun bt179 => (if bt179.2 = 0 then ((date_Parse.f k bt179.1).bind fun bt181 => (if bt181.1 = a0 then (if bt181.2.1 = true then (if bt181.2.2.1 = true then (if bt181.2.2.2 = 0 then (if (bt179.1.size : Int) = 20 then ((cringlelaw06_alive.f k).bind fun t186 => (some t186)) else (some false)) else (some false)) else (some false)) else (some false)) else (some false))) else (if bt179.1.toList = ([] : List UInt8) then ((cringlelaw06_alive.f k).bind fun t187 => (some t187)) else (some false)))
theorem cringlelaw06_DateBack.mono : ∀ a0 k, LeO (cringlelaw06_DateBack.f k a0) (cringlelaw06_DateBack.f (k + 1) a0) := by
  intro a0 k
  unfold cringlelaw06_DateBack.f
  repeat' first
      | (with_reducible exact cringlelaw06_alive.mono _)
      | (with_reducible exact date_Format.mono _ _)
      | (with_reducible exact date_Parse.mono _ _)
      | (with_reducible exact LeO.refl _)
      | (with_reducible exact LeO.none _)
      | (with_reducible refine LeO.ite ?_ ?_)
      | (with_reducible refine LeO.bind ?_ (fun _ => ?_))
      | exact cringlelaw06_alive.mono _
      | exact date_Format.mono _ _
      | exact date_Parse.mono _ _
      | exact LeO.none _
      | refine LeO.ite ?_ ?_
      | refine LeO.bind ?_ (fun _ => ?_)
set_option maxHeartbeats 8000000 in
set_option maxRecDepth 100000 in
theorem cringlelaw06_DateBack.calls (k : Nat) (a0 : Int) (r : Bool) (w : World) (h : cringlelaw06_DateBack.f k a0 = some r) (htrue : Aside0 (r = true)) :
    Calls Tryd.prog 6 #[.int .i64 a0] w fun e w' => e = .returned (.bool r) ∧ Below w.heap.size w w' := by
  have hu40 := Tryd.underlying40
  have HB := Aside0.mk (Below.refl w.heap.size w)
  have H : ((date_Format.f k a0).bind fun bt179 => (if bt179.2 = 0 then ((date_Parse.f k bt179.1).bind fun bt181 => (if bt181.1 = a0 then (if bt181.2.1 = true then (if bt181.2.2.1 = true then (if bt181.2.2.2 = 0 then (if (bt179.1.size : Int) = 20 then ((cringlelaw06_alive.f k).bind fun t186 => (some t186)) else (some false)) else (some false)) else (some false)) else (some false)) else (some false))) else (if bt179.1.toList = ([] : List UInt8) then ((cringlelaw06_alive.f k).bind fun t187 => (some t187)) else (some false)))) = some r := h
  clear h
  replace H := Option.bind_eq_some_iff.mp H
  obtain ⟨⟨t179, t180⟩, A20, H⟩ := H
  replace H : (if t180 = 0 then ((date_Parse.f k t179).bind fun bt181 => (if bt181.1 = a0 then (if bt181.2.1 = true then (if bt181.2.2.1 = true then (if bt181.2.2.2 = 0 then (if (t179.size : Int) = 20 then ((cringlelaw06_alive.f k).bind fun t186 => (some t186)) else (some false)) else (some false)) else (some false)) else (some false)) else (some false))) else (if t179.toList = ([] : List UInt8) then ((cringlelaw06_alive.f k).bind fun t187 => (some t187)) else (some false))) = some r := H
  have A2 := Aside0.mk A20
  clear A20
  by_cases c3 : t180 = 0
  · rw [if_pos c3] at H
    have c3b0 : (t180 == 0) = true := beq_iff_eq.mpr c3
    have c3b1 : (t180 != 0) = false := bne_eq_false_iff_eq.mpr c3
    clear c3
    replace H := Option.bind_eq_some_iff.mp H
    obtain ⟨⟨t181, t182, t183, t184⟩, A40, H⟩ := H
    replace H : (if t181 = a0 then (if t182 = true then (if t183 = true then (if t184 = 0 then (if (t179.size : Int) = 20 then ((cringlelaw06_alive.f k).bind fun t186 => (some t186)) else (some false)) else (some false)) else (some false)) else (some false)) else (some false)) = some r := H
    have A4 := Aside0.mk A40
    clear A40
    by_cases c5 : t181 = a0
    · rw [if_pos c5] at H
      have c5b0 : (t181 == a0) = true := beq_iff_eq.mpr c5
      have c5b1 : (t181 != a0) = false := bne_eq_false_iff_eq.mpr c5
      clear c5
      by_cases c6 : t182 = true
      · subst c6
        have H1 : (if t183 = true then (if t184 = 0 then (if (t179.size : Int) = 20 then ((cringlelaw06_alive.f k).bind fun t186 => (some t186)) else (some false)) else (some false)) else (some false)) = some r := by rw [if_pos rfl] at H; exact H
        clear H
        have H := H1
        clear H1
        by_cases c7 : t183 = true
        · subst c7
          have H1 : (if t184 = 0 then (if (t179.size : Int) = 20 then ((cringlelaw06_alive.f k).bind fun t186 => (some t186)) else (some false)) else (some false)) = some r := by rw [if_pos rfl] at H; exact H
          clear H
          have H := H1
          clear H1
          by_cases c8 : t184 = 0
          · rw [if_pos c8] at H
            have c8b0 : (t184 == 0) = true := beq_iff_eq.mpr c8
            have c8b1 : (t184 != 0) = false := bne_eq_false_iff_eq.mpr c8
            clear c8
            by_cases c9 : (t179.size : Int) = 20
            · rw [if_pos c9] at H
              have c9b0 : ((t179.size : Int) == 20) = true := beq_iff_eq.mpr c9
              have c9b1 : ((t179.size : Int) != 20) = false := bne_eq_false_iff_eq.mpr c9
              clear c9
              replace H := Option.bind_eq_some_iff.mp H
              obtain ⟨t186, A100, H⟩ := H
              replace H : (some t186) = some r := H
              have A10 := Aside0.mk A100
              clear A100
              obtain rfl := Option.some.inj H
              go_enter Tryd.func6, Tryd.ntmps6
              go_wp2_with (first | ((with_reducible refine gate_callee (f := 15) rfl ?_); refine goesL_ (some 9) rfl rfl Tryd.func15 (by kernel_rfl) rfl #[.int .i64 a0] rfl (by (try simp only [List.map_toArray, List.map_cons, List.map_nil]); first | done | rfl | (simp only [List.length_drop, List.length_take]; rfl)) ?_; (with_reducible refine (date_Format.calls k a0 t179 t180 _ A2.out).mono ?_); rintro e w11 ⟨rfl, hb⟩; refine ⟨_, rfl, ?_⟩; have n0_ := Aside0.mk (below_step (by repeat (first | (with_reducible first | exact HB.out | apply below_alloc | apply pw_below_drewN | apply below_drew1) | exact HB.out)) hb); clear HB; have HB := n0_; clear n0_; (try clear hb); (try clear hb2); (try clear hk); (try clear hi)) | ((with_reducible refine gate_callee (f := 16) rfl ?_); refine goesL_ (some 21) rfl rfl Tryd.func16 (by kernel_rfl) rfl #[.string t179] rfl (by (try simp only [List.map_toArray, List.map_cons, List.map_nil]); first | done | rfl | (simp only [List.length_drop, List.length_take]; rfl)) ?_; (with_reducible refine (date_Parse.calls k t179 t181 true true t184 _ A4.out).mono ?_); rintro e w12 ⟨rfl, hb⟩; refine ⟨_, rfl, ?_⟩; have n0_ := Aside0.mk (below_step (by repeat (first | (with_reducible first | exact HB.out | apply below_alloc | apply pw_below_drewN | apply below_drew1) | exact HB.out)) hb); clear HB; have HB := n0_; clear n0_; (try clear hb); (try clear hb2); (try clear hk); (try clear hi)) | ((with_reducible refine gate_dst (N := 5) rfl ?_); (try (refine gate_guard (by rfl) ?_; dsimp only)); refine box_event ?hg (N := 5) ?hd (cs := #[.int .i64 0, .bool false, .bool false]) (t := 40) ?hr ?_; (case hd => rfl); (case hg => rfl); (case hr => first | (go_simp; done) | (go_simp; rfl)); intro gb185 hg w13 hbox hb; have n0_ := Aside0.mk (below_step (by repeat (first | (with_reducible first | exact HB.out | apply below_alloc | apply pw_below_drewN | apply below_drew1) | exact HB.out)) hb); have n1_ := Aside0.mk (hbox); have n2_ := Aside0.mk ((by rw [hg]; exact (below_size (by repeat (first | (with_reducible first | exact HB.out | apply below_alloc | apply pw_below_drewN | apply below_drew1) | exact HB.out))) : w.heap.size ≤ gb185)); have n3_ := Aside0.mk ((by rw [hg]; exact (below_size (by repeat (first | (with_reducible first | exact HB.out | apply below_alloc | apply pw_below_drewN | apply below_drew1) | exact HB.out))) : w.heap.size ≤ gb185)); clear HB; have HB := n0_; have BK185 := n1_; have GW185 := n2_; have GE185 := n3_; clear n0_ n1_ n2_ n3_; clear hb hbox hg; have hcz14_0 : w13.cell? ⟨gb185, 0, none⟩ = some (.int .i64 0) := (blk_cell BK185.out 0).trans rfl; have hcz14_1 : w13.cell? ⟨gb185, 1, none⟩ = some (.bool false) := (blk_cell BK185.out 1).trans rfl; have hcz14_2 : w13.cell? ⟨gb185, 2, none⟩ = some (.bool false) := (blk_cell BK185.out 2).trans rfl; have hfz14_0 := blk_frozen BK185.out 0; have hfz14_1 := blk_frozen BK185.out 1; have hfz14_2 := blk_frozen BK185.out 2) | (go_at_call 12; (with_reducible refine (cringlelaw06_alive.calls k  t186 _ A10.out).mono ?_); rintro e w15 ⟨rfl, hb⟩; have n0_ := Aside0.mk (blk_below (g := gb185) (o := .cells #[.int .i64 t181, .bool true, .bool true] 40 (0, 0)) (by (with_reducible repeat (first | refine blk_drewN ?_ _ | refine blk_drew ?_ | refine blk_alloc ?_ _)); refine blk_put (cs := #[.int .i64 t181, .bool true, .bool false]) ?_ 2 _ rfl; (with_reducible repeat (first | refine blk_drewN ?_ _ | refine blk_drew ?_ | refine blk_alloc ?_ _)); refine blk_put (cs := #[.int .i64 t181, .bool false, .bool false]) ?_ 1 _ rfl; (with_reducible repeat (first | refine blk_drewN ?_ _ | refine blk_drew ?_ | refine blk_alloc ?_ _)); refine blk_put (cs := #[.int .i64 0, .bool false, .bool false]) ?_ 0 _ rfl; (with_reducible repeat (first | refine blk_drewN ?_ _ | refine blk_drew ?_ | refine blk_alloc ?_ _)); exact BK185.out) hb); have n1_ := Aside0.mk (below_step (by repeat (first | (with_reducible first | exact HB.out | apply below_alloc | apply pw_below_drewN | apply below_drew1 | refine below_set ?_ GE185.out) | exact HB.out)) hb); clear BK185; clear HB; have BK185 := n0_; have HB := n1_; clear n0_ n1_; (try clear hb); (try clear hb2); (try clear hk); (try clear hi)))
              go_ret
              exact ⟨by first | rfl | (simp [errW_none, errW_some] <;> rfl) | (simp [*, errW_none, errW_some] <;> rfl), by repeat (first | (with_reducible first | exact HB.out | apply below_alloc | apply pw_below_drewN | apply below_drew1 | refine below_set ?_ GE185.out) | exact HB.out)⟩
            · rw [if_neg c9] at H
              have c9b0 : ((t179.size : Int) == 20) = false := beq_eq_false_iff_ne.mpr c9
              have c9b1 : ((t179.size : Int) != 20) = true := bne_iff_ne.mpr c9
              exact absurd (Option.some.inj H) (by rw [htrue.out]; decide)
          · rw [if_neg c8] at H
            have c8b0 : (t184 == 0) = false := beq_eq_false_iff_ne.mpr c8
            have c8b1 : (t184 != 0) = true := bne_iff_ne.mpr c8
            exact absurd (Option.some.inj H) (by rw [htrue.out]; decide)
        · replace c7 := Bool.eq_false_iff.mpr c7
          subst c7
          have H1 : (some false) = some r := by rw [if_neg (show ¬ (false = true) by decide)] at H; exact H
          clear H
          have H := H1
          clear H1
          exact absurd (Option.some.inj H) (by rw [htrue.out]; decide)
      · replace c6 := Bool.eq_false_iff.mpr c6
        subst c6
        have H1 : (some false) = some r := by rw [if_neg (show ¬ (false = true) by decide)] at H; exact H
        clear H
        have H := H1
        clear H1
        exact absurd (Option.some.inj H) (by rw [htrue.out]; decide)
    · rw [if_neg c5] at H
      have c5b0 : (t181 == a0) = false := beq_eq_false_iff_ne.mpr c5
      have c5b1 : (t181 != a0) = true := bne_iff_ne.mpr c5
      exact absurd (Option.some.inj H) (by rw [htrue.out]; decide)
  · rw [if_neg c3] at H
    have c3b0 : (t180 == 0) = false := beq_eq_false_iff_ne.mpr c3
    have c3b1 : (t180 != 0) = true := bne_iff_ne.mpr c3
    by_cases c16 : t179.toList = ([] : List UInt8)
    · rw [if_pos c16] at H
      have c16b0 : (t179.toList == ([] : List UInt8)) = true := beq_iff_eq.mpr c16
      have c16b1 : (t179.toList != ([] : List UInt8)) = false := bne_eq_false_iff_eq.mpr c16
      clear c16
      replace H := Option.bind_eq_some_iff.mp H
      obtain ⟨t187, A170, H⟩ := H
      replace H : (some t187) = some r := H
      have A17 := Aside0.mk A170
      clear A170
      obtain rfl := Option.some.inj H
      go_enter Tryd.func6, Tryd.ntmps6
      go_wp2_with (first | ((with_reducible refine gate_callee (f := 15) rfl ?_); refine goesL_ (some 9) rfl rfl Tryd.func15 (by kernel_rfl) rfl #[.int .i64 a0] rfl (by (try simp only [List.map_toArray, List.map_cons, List.map_nil]); first | done | rfl | (simp only [List.length_drop, List.length_take]; rfl)) ?_; (with_reducible refine (date_Format.calls k a0 t179 t180 _ A2.out).mono ?_); rintro e w18 ⟨rfl, hb⟩; refine ⟨_, rfl, ?_⟩; have n0_ := Aside0.mk (below_step (by repeat (first | (with_reducible first | exact HB.out | apply below_alloc | apply pw_below_drewN | apply below_drew1) | exact HB.out)) hb); clear HB; have HB := n0_; clear n0_; (try clear hb); (try clear hb2); (try clear hk); (try clear hi)) | (go_at_call 12; (with_reducible refine (cringlelaw06_alive.calls k  t187 _ A17.out).mono ?_); rintro e w19 ⟨rfl, hb⟩; have n0_ := Aside0.mk (below_step (by repeat (first | (with_reducible first | exact HB.out | apply below_alloc | apply pw_below_drewN | apply below_drew1) | exact HB.out)) hb); clear HB; have HB := n0_; clear n0_; (try clear hb); (try clear hb2); (try clear hk); (try clear hi)))
      go_ret
      exact ⟨by first | rfl | (simp [errW_none, errW_some] <;> rfl) | (simp [*, errW_none, errW_some] <;> rfl), by repeat (first | (with_reducible first | exact HB.out | apply below_alloc | apply pw_below_drewN | apply below_drew1) | exact HB.out)⟩
    · rw [if_neg c16] at H
      have c16b0 : (t179.toList == ([] : List UInt8)) = false := beq_eq_false_iff_ne.mpr c16
      have c16b1 : (t179.toList != ([] : List UInt8)) = true := bne_iff_ne.mpr c16
      exact absurd (Option.some.inj H) (by rw [htrue.out]; decide)

/-! ### cringlelaw06_DateZones_1: function 17 -/
def cringlelaw06_DateZones_1.f (a0 : Int) : Option (ByteArray) := some (strOfNums (([(wrap64 (48 + (wrap64 (Int.tdiv a0 10)))) % 256, (wrap64 (48 + (Int.tmod a0 10))) % 256] : List Int)))
set_option maxHeartbeats 8000000 in
set_option maxRecDepth 100000 in
theorem cringlelaw06_DateZones_1.calls (a0 : Int) (r : ByteArray) (w : World) (h : cringlelaw06_DateZones_1.f a0 = some r) :
    Calls Tryd.prog 17 #[.int .i64 a0] w fun e w' => e = .returned (.string r) ∧ Below w.heap.size w w' := by
  have HB := Aside0.mk (Below.refl w.heap.size w)
  have H : (some (strOfNums (([(wrap64 (48 + (wrap64 (Int.tdiv a0 10)))) % 256, (wrap64 (48 + (Int.tmod a0 10))) % 256] : List Int)))) = some r := h
  clear h
  obtain ⟨y188, hy188⟩ : ∃ y_ : List Int, y_ = (([(wrap64 (48 + (wrap64 (Int.tdiv a0 10)))) % 256, (wrap64 (48 + (Int.tmod a0 10))) % 256] : List Int)) := ⟨_, rfl⟩
  replace H : (some (strOfNums y188)) = some r := by first | (rw [hy188]; with_reducible exact H) | (have H2_ := (Option.bind_some _ _).symm.trans H; rw [hy188]; with_reducible exact H2_) | (have H2_ := (Option.bind_some _ _).symm.trans H; with_reducible exact H2_) | with_reducible exact H | (rw [hy188]; exact H) | exact H
  have Ny188 := Aside0.mk hy188
  clear hy188
  obtain rfl := Option.some.inj H
  go_enter Tryd.func17, Tryd.ntmps17
  go_wp2_with (first | ((with_reducible refine gate_dst (N := 11) rfl ?_); refine Kd.R_lit (Kd.int .u8) _ 5 ?hg (N := 11) ?hd (xs := ([(wrap64 (48 + (wrap64 (Int.tdiv a0 10)))) % 256, (wrap64 (48 + (Int.tmod a0 10))) % 256] : List Int)) (inner := [.int .u8 ((wrap64 (48 + (wrap64 (Int.tdiv a0 10)))) % 256), .int .u8 ((wrap64 (48 + (Int.tmod a0 10))) % 256)]) (ok := fun _ => True) (okp := fun _ => True) ?hr ?hp (fun _ hk => hk) trivial (Below.refl _ _) (Nat.le_refl _) (by simp) ?_; (case hd => rfl); (case hg => rfl); (case hr => first | (go_simp; done) | (go_simp; rfl)); (case hp => exact (Reps.one (show Kd.M (Kd.int .u8) _ _ _ ((wrap64 (48 + (wrap64 (Int.tdiv a0 10)))) % 256) [.int .u8 ((wrap64 (48 + (wrap64 (Int.tdiv a0 10)))) % 256)] from rfl) (Reps.one (show Kd.M (Kd.int .u8) _ _ _ ((wrap64 (48 + (Int.tmod a0 10))) % 256) [.int .u8 ((wrap64 (48 + (Int.tmod a0 10))) % 256)] from rfl) (Reps.none _ _)))); intro v189 w2 ho3 hb hg_ hnew_; clear hg_ hnew_; (first | rw [← Ny188.out] at ho3 | (simp only [Int.reduceToNat] at ho3; rw [← Ny188.out] at ho3)); have n0_ := Aside0.mk (Kd.R_lower ho3 (below_size (by repeat (first | (with_reducible first | exact HB.out | apply below_alloc | apply pw_below_drewN | apply below_drew1) | exact HB.out)))); have n1_ := Aside0.mk (below_step (by repeat (first | (with_reducible first | exact HB.out | apply below_alloc | apply pw_below_drewN | apply below_drew1) | exact HB.out)) hb); clear HB; have HO190 := n0_; have HB := n1_; clear n0_ n1_; clear hb ho3; have hcv4 := own_string (P := Tryd.prog) Tryd.underlying44 Tryd.underlying5 Tryd.underlying9 (Kd.own_of_R HO190.out)))
  go_ret
  exact ⟨by first | rfl | (simp [errW_none, errW_some] <;> rfl) | (simp [*, errW_none, errW_some] <;> rfl), by repeat (first | (with_reducible first | exact HB.out | apply below_alloc | apply pw_below_drewN | apply below_drew1) | exact HB.out)⟩

-- NOT PRINTED: function 7 (cringlelaw06_DateZones)

end Go.Proofs.YtfoikdjffemhbaaDoor.Q
