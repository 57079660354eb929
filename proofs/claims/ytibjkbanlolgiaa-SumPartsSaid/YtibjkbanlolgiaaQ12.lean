-- printed by a program of the session's own; Lean checks it
import Derived.Test.YtibjkbanlolgiaaQ0
import Derived.Test.YtibjkbanlolgiaaQ1
import Derived.Test.YtibjkbanlolgiaaQ3
import Derived.Test.YtibjkbanlolgiaaQ4
import Derived.Test.YtibjkbanlolgiaaQ5
import Derived.Test.YtibjkbanlolgiaaQ6
import Derived.Test.YtibjkbanlolgiaaQ8
import Derived.Test.YtibjkbanlolgiaaQ9
import Derived.Test.YtibjkbanlolgiaaQ10
import Derived.Test.YtibjkbanlolgiaaQ11
namespace Go.Proofs.Ytibjkbanlolgiaa.Q
open Go.RowKit Go.Proofs.YtibjkbanlolgiaaW.PrintWords Go.Proofs.YtibjkbanlolgiaaW.PrintLast Go.Proofs.YtibjkbanlolgiaaW.PrintMore
attribute [local go_sem] max2_int min2_int max_two min_two max_three min_three max_four min_four   -- for this text's walks alone
set_option linter.unusedVariables false
set_option linter.unusedSimpArgs false

/-! ### cringlelaw08_SumOne: function 3 -/
def cringlelaw08_SumOne.f (k : Nat) (l0 : List Int) (a1 : Int) (a2 : Int) : Option (Bool) := (cringlelaw08_long.f l0).bind fun t121 => (if t121 = true then ((cringlelaw08_alive.f).bind fun t122 => (some t122)) else ((sum_New.f).bind fun bt123 => ((sum_Sum_Add.f k bt123.1 bt123.2 l0).bind fun bt125 => ((sum_Sum_Crc.f bt125.1 bt125.2).bind fun t128 => ((cringleref08_Crc.f k l0).bind fun t129 => (if t128 = t129 then ((sum_Sum_Mark.f bt125.1 bt125.2).bind fun t130 => ((cringleref08_Mark.f k l0).bind fun t131 => (if t130 = t131 then ((sum_Hex.f k a1 a2).bind fun t132 => ((cringleref08_Hex.f k a1 a2).bind fun t133 => (if t132.toList = t133.toList then ((cringlelaw08_alive.f).bind fun t134 => (some t134)) else (some false)))) else (some false)))) else (some false)))))))
theorem cringlelaw08_SumOne.mono : ∀ a0 a1 a2 k, LeO (cringlelaw08_SumOne.f k a0 a1 a2) (cringlelaw08_SumOne.f (k + 1) a0 a1 a2) := by
  intro a0 a1 a2 k
  unfold cringlelaw08_SumOne.f
  repeat' first
      | (with_reducible exact cringleref08_Crc.mono _ _)
      | (with_reducible exact cringleref08_Hex.mono _ _ _)
      | (with_reducible exact cringleref08_Mark.mono _ _)
      | (with_reducible exact sum_Hex.mono _ _ _)
      | (with_reducible exact sum_Sum_Add.mono _ _ _ _)
      | (with_reducible exact LeO.refl _)
      | (with_reducible exact LeO.none _)
      | (with_reducible refine LeO.ite ?_ ?_)
      | (with_reducible refine LeO.bind ?_ (fun _ => ?_))
      | exact cringleref08_Crc.mono _ _
      | exact cringleref08_Hex.mono _ _ _
      | exact cringleref08_Mark.mono _ _
      | exact sum_Hex.mono _ _ _
      | exact sum_Sum_Add.mono _ _ _ _
      | exact LeO.none _
      | refine LeO.ite ?_ ?_
      | refine LeO.bind ?_ (fun _ => ?_)
set_option maxHeartbeats 8000000 in
set_option maxRecDepth 100000 in
theorem cringlelaw08_SumOne.calls (k : Nat) (A0 : Option Addr) (c0 : Nat) (l0 : List Int) (a1 : Int) (a2 : Int) (r : Bool) (w : World) (hr0 : Kd.C (Kd.int .u8) w A0 l0.length l0) (hc0 : l0.length ≤ c0) (h : cringlelaw08_SumOne.f k l0 a1 a2 = some r) (htrue : Aside0 (r = true)) :
    Calls Try.prog 3 #[.slice A0 l0.length c0, .int .u64 a1, .int .i64 a2] w fun e w' => e = .returned (.bool r) ∧ Below w.heap.size w w' := by
  have hu28 := Try.underlying28
  have HR0 := Aside0.mk hr0
  have HC0 := Aside0.mk hc0
  clear hr0 hc0
  have HB := Aside0.mk (Below.refl w.heap.size w)
  have H : ((cringlelaw08_long.f l0).bind fun t121 => (if t121 = true then ((cringlelaw08_alive.f).bind fun t122 => (some t122)) else ((sum_New.f).bind fun bt123 => ((sum_Sum_Add.f k bt123.1 bt123.2 l0).bind fun bt125 => ((sum_Sum_Crc.f bt125.1 bt125.2).bind fun t128 => ((cringleref08_Crc.f k l0).bind fun t129 => (if t128 = t129 then ((sum_Sum_Mark.f bt125.1 bt125.2).bind fun t130 => ((cringleref08_Mark.f k l0).bind fun t131 => (if t130 = t131 then ((sum_Hex.f k a1 a2).bind fun t132 => ((cringleref08_Hex.f k a1 a2).bind fun t133 => (if t132.toList = t133.toList then ((cringlelaw08_alive.f).bind fun t134 => (some t134)) else (some false)))) else (some false)))) else (some false)))))))) = some r := h
  clear h
  replace H := Option.bind_eq_some_iff.mp H
  obtain ⟨t121, A40, H⟩ := H
  replace H : (if t121 = true then ((cringlelaw08_alive.f).bind fun t122 => (some t122)) else ((sum_New.f).bind fun bt123 => ((sum_Sum_Add.f k bt123.1 bt123.2 l0).bind fun bt125 => ((sum_Sum_Crc.f bt125.1 bt125.2).bind fun t128 => ((cringleref08_Crc.f k l0).bind fun t129 => (if t128 = t129 then ((sum_Sum_Mark.f bt125.1 bt125.2).bind fun t130 => ((cringleref08_Mark.f k l0).bind fun t131 => (if t130 = t131 then ((sum_Hex.f k a1 a2).bind fun t132 => ((cringleref08_Hex.f k a1 a2).bind fun t133 => (if t132.toList = t133.toList then ((cringlelaw08_alive.f).bind fun t134 => (some t134)) else (some false)))) else (some false)))) else (some false))))))) = some r := H
  have A4 := Aside0.mk A40
  clear A40
  by_cases c5 : t121 = true
  · subst c5
    have H1 : ((cringlelaw08_alive.f).bind fun t122 => (some t122)) = some r := by rw [if_pos rfl] at H; exact H
    clear H
    have H := H1
    clear H1
    replace H := Option.bind_eq_some_iff.mp H
    obtain ⟨t122, A60, H⟩ := H
    replace H : (some t122) = some r := H
    have A6 := Aside0.mk A60
    clear A60
    obtain rfl := Option.some.inj H
    go_enter Try.func3, Try.ntmps3
    go_wp2_with (first | ((with_reducible refine gate_callee (f := 7) rfl ?_); refine goesL_ (some 9) rfl rfl Try.func7 (by kernel_rfl) rfl #[.slice A0 l0.length c0] rfl (by (try simp only [List.map_toArray, List.map_cons, List.map_nil]); first | done | rfl | (simp only [List.length_drop, List.length_take]; rfl)) ?_; (with_reducible refine (cringlelaw08_long.calls _ _ l0 true _ ?side1 ?side2 A4.out).mono ?_); (case side1 => repeat (first | exact HR0.out | (with_reducible refine Kd.C_alloc ?_ _) | (with_reducible refine Kd.C_drewN ?_ _) | (with_reducible refine Kd.C_drew ?_))); (case side2 => exact HC0.out); rintro e w' ⟨rfl, ⟨nd, rfl⟩⟩; refine ⟨_, rfl, ?_⟩) | ((with_reducible refine gate_callee (f := 8) rfl ?_); refine goesL_ (some 10) rfl rfl Try.func8 (by kernel_rfl) rfl #[] rfl (by (try simp only [List.map_toArray, List.map_cons, List.map_nil]); first | done | rfl | (simp only [List.length_drop, List.length_take]; rfl)) ?_; (with_reducible refine (cringlelaw08_alive.calls  t122 _ A6.out).mono ?_); rintro e w7 ⟨rfl, hb⟩; refine ⟨_, rfl, ?_⟩; have n0_ := Aside0.mk (below_step (by repeat (first | (with_reducible first | exact HB.out | apply below_alloc | apply pw_below_drewN | apply below_drew1) | exact HB.out)) hb); clear HB; have HB := n0_; clear n0_; (try clear hb); (try clear hb2); (try clear hk); (try clear hi)))
    go_ret
    exact ⟨by first | rfl | (simp [errW_none, errW_some] <;> rfl) | (simp [*, errW_none, errW_some] <;> rfl), by repeat (first | (with_reducible first | exact HB.out | apply below_alloc | apply pw_below_drewN | apply below_drew1) | exact HB.out)⟩
  · replace c5 := Bool.eq_false_iff.mpr c5
    subst c5
    have H1 : ((sum_New.f).bind fun bt123 => ((sum_Sum_Add.f k bt123.1 bt123.2 l0).bind fun bt125 => ((sum_Sum_Crc.f bt125.1 bt125.2).bind fun t128 => ((cringleref08_Crc.f k l0).bind fun t129 => (if t128 = t129 then ((sum_Sum_Mark.f bt125.1 bt125.2).bind fun t130 => ((cringleref08_Mark.f k l0).bind fun t131 => (if t130 = t131 then ((sum_Hex.f k a1 a2).bind fun t132 => ((cringleref08_Hex.f k a1 a2).bind fun t133 => (if t132.toList = t133.toList then ((cringlelaw08_alive.f).bind fun t134 => (some t134)) else (some false)))) else (some false)))) else (some false)))))) = some r := by rw [if_neg (show ¬ (false = true) by decide)] at H; exact H
    clear H
    have H := H1
    clear H1
    replace H := Option.bind_eq_some_iff.mp H
    obtain ⟨⟨t123, t124⟩, A80, H⟩ := H
    replace H : ((sum_Sum_Add.f k t123 t124 l0).bind fun bt125 => ((sum_Sum_Crc.f bt125.1 bt125.2).bind fun t128 => ((cringleref08_Crc.f k l0).bind fun t129 => (if t128 = t129 then ((sum_Sum_Mark.f bt125.1 bt125.2).bind fun t130 => ((cringleref08_Mark.f k l0).bind fun t131 => (if t130 = t131 then ((sum_Hex.f k a1 a2).bind fun t132 => ((cringleref08_Hex.f k a1 a2).bind fun t133 => (if t132.toList = t133.toList then ((cringlelaw08_alive.f).bind fun t134 => (some t134)) else (some false)))) else (some false)))) else (some false))))) = some r := H
    have A8 := Aside0.mk A80
    clear A80
    replace H := Option.bind_eq_some_iff.mp H
    obtain ⟨⟨t125, t126⟩, A90, H⟩ := H
    replace H : ((sum_Sum_Crc.f t125 t126).bind fun t128 => ((cringleref08_Crc.f k l0).bind fun t129 => (if t128 = t129 then ((sum_Sum_Mark.f t125 t126).bind fun t130 => ((cringleref08_Mark.f k l0).bind fun t131 => (if t130 = t131 then ((sum_Hex.f k a1 a2).bind fun t132 => ((cringleref08_Hex.f k a1 a2).bind fun t133 => (if t132.toList = t133.toList then ((cringlelaw08_alive.f).bind fun t134 => (some t134)) else (some false)))) else (some false)))) else (some false)))) = some r := H
    have A9 := Aside0.mk A90
    clear A90
    replace H := Option.bind_eq_some_iff.mp H
    obtain ⟨t128, A100, H⟩ := H
    replace H : ((cringleref08_Crc.f k l0).bind fun t129 => (if t128 = t129 then ((sum_Sum_Mark.f t125 t126).bind fun t130 => ((cringleref08_Mark.f k l0).bind fun t131 => (if t130 = t131 then ((sum_Hex.f k a1 a2).bind fun t132 => ((cringleref08_Hex.f k a1 a2).bind fun t133 => (if t132.toList = t133.toList then ((cringlelaw08_alive.f).bind fun t134 => (some t134)) else (some false)))) else (some false)))) else (some false))) = some r := H
    have A10 := Aside0.mk A100
    clear A100
    replace H := Option.bind_eq_some_iff.mp H
    obtain ⟨t129, A110, H⟩ := H
    replace H : (if t128 = t129 then ((sum_Sum_Mark.f t125 t126).bind fun t130 => ((cringleref08_Mark.f k l0).bind fun t131 => (if t130 = t131 then ((sum_Hex.f k a1 a2).bind fun t132 => ((cringleref08_Hex.f k a1 a2).bind fun t133 => (if t132.toList = t133.toList then ((cringlelaw08_alive.f).bind fun t134 => (some t134)) else (some false)))) else (some false)))) else (some false)) = some r := H
    have A11 := Aside0.mk A110
    clear A110
    by_cases c12 : t128 = t129
    · rw [if_pos c12] at H
      have c12b0 : (t128 == t129) = true := beq_iff_eq.mpr c12
      have c12b1 : (t128 != t129) = false := bne_eq_false_iff_eq.mpr c12
      clear c12
      replace H := Option.bind_eq_some_iff.mp H
      obtain ⟨t130, A130, H⟩ := H
      replace H : ((cringleref08_Mark.f k l0).bind fun t131 => (if t130 = t131 then ((sum_Hex.f k a1 a2).bind fun t132 => ((cringleref08_Hex.f k a1 a2).bind fun t133 => (if t132.toList = t133.toList then ((cringlelaw08_alive.f).bind fun t134 => (some t134)) else (some false)))) else (some false))) = some r := H
      have A13 := Aside0.mk A130
      clear A130
      replace H := Option.bind_eq_some_iff.mp H
      obtain ⟨t131, A140, H⟩ := H
      replace H : (if t130 = t131 then ((sum_Hex.f k a1 a2).bind fun t132 => ((cringleref08_Hex.f k a1 a2).bind fun t133 => (if t132.toList = t133.toList then ((cringlelaw08_alive.f).bind fun t134 => (some t134)) else (some false)))) else (some false)) = some r := H
      have A14 := Aside0.mk A140
      clear A140
      by_cases c15 : t130 = t131
      · rw [if_pos c15] at H
        have c15b0 : (t130 == t131) = true := beq_iff_eq.mpr c15
        have c15b1 : (t130 != t131) = false := bne_eq_false_iff_eq.mpr c15
        clear c15
        replace H := Option.bind_eq_some_iff.mp H
        obtain ⟨t132, A160, H⟩ := H
        replace H : ((cringleref08_Hex.f k a1 a2).bind fun t133 => (if t132.toList = t133.toList then ((cringlelaw08_alive.f).bind fun t134 => (some t134)) else (some false))) = some r := H
        have A16 := Aside0.mk A160
        clear A160
        replace H := Option.bind_eq_some_iff.mp H
        obtain ⟨t133, A170, H⟩ := H
        replace H : (if t132.toList = t133.toList then ((cringlelaw08_alive.f).bind fun t134 => (some t134)) else (some false)) = some r := H
        have A17 := Aside0.mk A170
        clear A170
        by_cases c18 : t132.toList = t133.toList
        · rw [if_pos c18] at H
          have c18b0 : (t132.toList == t133.toList) = true := beq_iff_eq.mpr c18
          have c18b1 : (t132.toList != t133.toList) = false := bne_eq_false_iff_eq.mpr c18
          clear c18
          replace H := Option.bind_eq_some_iff.mp H
          obtain ⟨t134, A190, H⟩ := H
          replace H : (some t134) = some r := H
          have A19 := Aside0.mk A190
          clear A190
          obtain rfl := Option.some.inj H
          go_enter Try.func3, Try.ntmps3
          go_wp2_with (first | ((with_reducible refine gate_callee (f := 7) rfl ?_); refine goesL_ (some 9) rfl rfl Try.func7 (by kernel_rfl) rfl #[.slice A0 l0.length c0] rfl (by (try simp only [List.map_toArray, List.map_cons, List.map_nil]); first | done | rfl | (simp only [List.length_drop, List.length_take]; rfl)) ?_; (with_reducible refine (cringlelaw08_long.calls _ _ l0 false _ ?side1 ?side2 A4.out).mono ?_); (case side1 => repeat (first | exact HR0.out | (with_reducible refine Kd.C_alloc ?_ _) | (with_reducible refine Kd.C_drewN ?_ _) | (with_reducible refine Kd.C_drew ?_))); (case side2 => exact HC0.out); rintro e w' ⟨rfl, ⟨nd, rfl⟩⟩; refine ⟨_, rfl, ?_⟩) | ((with_reducible refine gate_callee (f := 9) rfl ?_); refine goesL_ (some 11) rfl rfl Try.func9 (by kernel_rfl) rfl #[] rfl (by (try simp only [List.map_toArray, List.map_cons, List.map_nil]); first | done | rfl | (simp only [List.length_drop, List.length_take]; rfl)) ?_; (with_reducible refine (sum_New.calls  t123 t124 _ A8.out).mono ?_); rintro e w20 ⟨rfl, hb⟩; refine ⟨_, rfl, ?_⟩; have n0_ := Aside0.mk (below_step (by repeat (first | (with_reducible first | exact HB.out | apply below_alloc | apply pw_below_drewN | apply below_drew1) | exact HB.out)) hb); clear HB; have HB := n0_; clear n0_; (try clear hb); (try clear hb2); (try clear hk); (try clear hi)) | ((with_reducible refine gate_callee (f := 10) rfl ?_); refine goesL_ (some 13) rfl rfl Try.func10 (by kernel_rfl) rfl #[.agg #[.int .u32 t123, .int .u64 t124], .slice A0 l0.length c0] rfl (by (try simp only [List.map_toArray, List.map_cons, List.map_nil]); first | done | rfl | (simp only [List.length_drop, List.length_take]; rfl)) ?_; (with_reducible refine (sum_Sum_Add.calls k t123 t124 _ _ l0 t125 t126 _ ?side1 ?side2 A9.out).mono ?_); (case side1 => repeat (first | exact (Kd.C_below HR0.out HB.out) | (with_reducible refine Kd.C_alloc ?_ _) | (with_reducible refine Kd.C_drewN ?_ _) | (with_reducible refine Kd.C_drew ?_))); (case side2 => exact HC0.out); rintro e w21 ⟨rfl, hb⟩; refine ⟨_, rfl, ?_⟩; have n0_ := Aside0.mk (below_step (by repeat (first | (with_reducible first | exact HB.out | apply below_alloc | apply pw_below_drewN | apply below_drew1) | exact HB.out)) hb); clear HB; have HB := n0_; clear n0_; (try clear hb); (try clear hb2); (try clear hk); (try clear hi)) | ((with_reducible refine gate_dst (N := 7) rfl ?_); refine box_event ?hg (N := 7) ?hd (cs := #[.int .u32 0, .int .u64 0]) (t := 28) ?hr ?_; (case hd => rfl); (case hg => rfl); (case hr => first | (go_simp; done) | (go_simp; rfl)); intro gb127 hg w22 hbox hb; have n0_ := Aside0.mk (below_step (by repeat (first | (with_reducible first | exact HB.out | apply below_alloc | apply pw_below_drewN | apply below_drew1) | exact HB.out)) hb); have n1_ := Aside0.mk (hbox); have n2_ := Aside0.mk ((by rw [hg]; exact (below_size (by repeat (first | (with_reducible first | exact HB.out | apply below_alloc | apply pw_below_drewN | apply below_drew1) | exact HB.out))) : w.heap.size ≤ gb127)); have n3_ := Aside0.mk ((by rw [hg]; exact (below_size (by repeat (first | (with_reducible first | exact HB.out | apply below_alloc | apply pw_below_drewN | apply below_drew1) | exact HB.out))) : w.heap.size ≤ gb127)); clear HB; have HB := n0_; have BK127 := n1_; have GW127 := n2_; have GE127 := n3_; clear n0_ n1_ n2_ n3_; clear hb hbox hg; have hcz23_0 : w22.cell? ⟨gb127, 0, none⟩ = some (.int .u32 0) := (blk_cell BK127.out 0).trans rfl; have hcz23_1 : w22.cell? ⟨gb127, 1, none⟩ = some (.int .u64 0) := (blk_cell BK127.out 1).trans rfl; have hfz23_0 := blk_frozen BK127.out 0; have hfz23_1 := blk_frozen BK127.out 1) | ((with_reducible refine gate_callee (f := 11) rfl ?_); refine goesL_ (some 15) rfl rfl Try.func11 (by kernel_rfl) rfl #[.agg #[.int .u32 t125, .int .u64 t126]] rfl (by (try simp only [List.map_toArray, List.map_cons, List.map_nil]); first | done | rfl | (simp only [List.length_drop, List.length_take]; rfl)) ?_; (with_reducible refine (sum_Sum_Crc.calls t125 t126 t128 _ A10.out).mono ?_); rintro e w24 ⟨rfl, hb⟩; refine ⟨_, rfl, ?_⟩; have n0_ := Aside0.mk (blk_below (g := gb127) (o := .cells #[.int .u32 t125, .int .u64 t126] 28 (0, 0)) (by (with_reducible repeat (first | refine blk_drewN ?_ _ | refine blk_drew ?_ | refine blk_alloc ?_ _)); refine blk_put (cs := #[.int .u32 t125, .int .u64 0]) ?_ 1 _ rfl; (with_reducible repeat (first | refine blk_drewN ?_ _ | refine blk_drew ?_ | refine blk_alloc ?_ _)); refine blk_put (cs := #[.int .u32 0, .int .u64 0]) ?_ 0 _ rfl; (with_reducible repeat (first | refine blk_drewN ?_ _ | refine blk_drew ?_ | refine blk_alloc ?_ _)); exact BK127.out) hb); have n1_ := Aside0.mk (below_step (by repeat (first | (with_reducible first | exact HB.out | apply below_alloc | apply pw_below_drewN | apply below_drew1 | refine below_set ?_ GE127.out) | exact HB.out)) hb); clear BK127; clear HB; have BK127 := n0_; have HB := n1_; clear n0_ n1_; (try clear hb); (try clear hb2); (try clear hk); (try clear hi)) | ((with_reducible refine gate_callee (f := 12) rfl ?_); refine goesL_ (some 17) rfl rfl Try.func12 (by kernel_rfl) rfl #[.slice A0 l0.length c0] rfl (by (try simp only [List.map_toArray, List.map_cons, List.map_nil]); first | done | rfl | (simp only [List.length_drop, List.length_take]; rfl)) ?_; (with_reducible refine (cringleref08_Crc.calls k _ _ l0 t129 _ ?side1 ?side2 A11.out).mono ?_); (case side1 => repeat (first | exact (Kd.C_below HR0.out HB.out) | (with_reducible refine Kd.C_alloc ?_ _) | (with_reducible refine Kd.C_drewN ?_ _) | (with_reducible refine Kd.C_drew ?_))); (case side2 => exact HC0.out); rintro e w' ⟨rfl, ⟨nd, rfl⟩⟩; refine ⟨_, rfl, ?_⟩; have hcz25_0 : w24.cell? ⟨gb127, 0, none⟩ = some (.int .u32 t125) := (blk_cell BK127.out 0).trans rfl; have hcz25_1 : w24.cell? ⟨gb127, 1, none⟩ = some (.int .u64 t126) := (blk_cell BK127.out 1).trans rfl; have hfz25_0 := blk_frozen BK127.out 0; have hfz25_1 := blk_frozen BK127.out 1) | (go_at_call 13; (with_reducible refine (sum_Sum_Mark.calls t125 t126 t130 _ A13.out).mono ?_); rintro e w26 ⟨rfl, hb⟩; have n0_ := Aside0.mk (blk_below (g := gb127) (o := .cells #[.int .u32 t125, .int .u64 t126] 28 (0, 0)) (by (with_reducible repeat (first | refine blk_drewN ?_ _ | refine blk_drew ?_ | refine blk_alloc ?_ _)); exact BK127.out) hb); have n1_ := Aside0.mk (below_step (by repeat (first | (with_reducible first | exact HB.out | apply below_alloc | apply pw_below_drewN | apply below_drew1 | refine below_set ?_ GE127.out) | exact HB.out)) hb); clear BK127; clear HB; have BK127 := n0_; have HB := n1_; clear n0_ n1_; (try clear hb); (try clear hb2); (try clear hk); (try clear hi)) | (go_at_call 14; (with_reducible refine (cringleref08_Mark.calls k _ _ l0 t131 _ ?side1 ?side2 A14.out).mono ?_); (case side1 => repeat (first | exact (Kd.C_below HR0.out HB.out) | (with_reducible refine Kd.C_alloc ?_ _) | (with_reducible refine Kd.C_drewN ?_ _) | (with_reducible refine Kd.C_drew ?_))); (case side2 => exact HC0.out); rintro e w' ⟨rfl, ⟨nd, rfl⟩⟩) | (go_at_call 15; (with_reducible refine (sum_Hex.calls k a1 a2 t132 _ A16.out).mono ?_); rintro e w27 ⟨rfl, hb⟩; have n0_ := Aside0.mk (blk_below (g := gb127) (o := .cells #[.int .u32 t125, .int .u64 t126] 28 (0, 0)) (by (with_reducible repeat (first | refine blk_drewN ?_ _ | refine blk_drew ?_ | refine blk_alloc ?_ _)); exact BK127.out) hb); have n1_ := Aside0.mk (below_step (by repeat (first | (with_reducible first | exact HB.out | apply below_alloc | apply pw_below_drewN | apply below_drew1 | refine below_set ?_ GE127.out) | exact HB.out)) hb); clear BK127; clear HB; have BK127 := n0_; have HB := n1_; clear n0_ n1_; (try clear hb); (try clear hb2); (try clear hk); (try clear hi)) | (go_at_call 16; (with_reducible refine (cringleref08_Hex.calls k a1 a2 t133 _ A17.out).mono ?_); rintro e w' ⟨rfl, ⟨nd, rfl⟩⟩) | (go_at_call 8; (with_reducible refine (cringlelaw08_alive.calls  t134 _ A19.out).mono ?_); rintro e w28 ⟨rfl, hb⟩; have n0_ := Aside0.mk (blk_below (g := gb127) (o := .cells #[.int .u32 t125, .int .u64 t126] 28 (0, 0)) (by (with_reducible repeat (first | refine blk_drewN ?_ _ | refine blk_drew ?_ | refine blk_alloc ?_ _)); exact BK127.out) hb); have n1_ := Aside0.mk (below_step (by repeat (first | (with_reducible first | exact HB.out | apply below_alloc | apply pw_below_drewN | apply below_drew1 | refine below_set ?_ GE127.out) | exact HB.out)) hb); clear BK127; clear HB; have BK127 := n0_; have HB := n1_; clear n0_ n1_; (try clear hb); (try clear hb2); (try clear hk); (try clear hi)))
          go_ret
          exact ⟨by first | rfl | (simp [errW_none, errW_some] <;> rfl) | (simp [*, errW_none, errW_some] <;> rfl), by repeat (first | (with_reducible first | exact HB.out | apply below_alloc | apply pw_below_drewN | apply below_drew1 | refine below_set ?_ GE127.out) | exact HB.out)⟩
        · rw [if_neg c18] at H
          have c18b0 : (t132.toList == t133.toList) = false := beq_eq_false_iff_ne.mpr c18
          have c18b1 : (t132.toList != t133.toList) = true := bne_iff_ne.mpr c18
          exact absurd (Option.some.inj H) (by rw [htrue.out]; decide)
      · rw [if_neg c15] at H
        have c15b0 : (t130 == t131) = false := beq_eq_false_iff_ne.mpr c15
        have c15b1 : (t130 != t131) = true := bne_iff_ne.mpr c15
        exact absurd (Option.some.inj H) (by rw [htrue.out]; decide)
    · rw [if_neg c12] at H
      have c12b0 : (t128 == t129) = false := beq_eq_false_iff_ne.mpr c12
      have c12b1 : (t128 != t129) = true := bne_iff_ne.mpr c12
      exact absurd (Option.some.inj H) (by rw [htrue.out]; decide)

end Go.Proofs.Ytibjkbanlolgiaa.Q
