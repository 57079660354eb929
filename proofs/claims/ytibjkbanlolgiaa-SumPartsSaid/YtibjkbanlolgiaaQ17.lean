-- printed by a program of the session's own; Lean checks it
import Derived.Test.YtibjkbanlolgiaaQ0
import Derived.Test.YtibjkbanlolgiaaQ1
import Derived.Test.YtibjkbanlolgiaaQ3
import Derived.Test.YtibjkbanlolgiaaQ4
import Derived.Test.YtibjkbanlolgiaaQ6
import Derived.Test.YtibjkbanlolgiaaQ7
import Derived.Test.YtibjkbanlolgiaaQ8
import Derived.Test.YtibjkbanlolgiaaQ9
import Derived.Test.YtibjkbanlolgiaaQ10
import Derived.Test.YtibjkbanlolgiaaQ15
import Derived.Test.YtibjkbanlolgiaaQ16
namespace Go.Proofs.Ytibjkbanlolgiaa.Q
open Go.RowKit Go.Proofs.YtibjkbanlolgiaaW.PrintWords Go.Proofs.YtibjkbanlolgiaaW.PrintLast Go.Proofs.YtibjkbanlolgiaaW.PrintMore
attribute [local go_sem] max2_int min2_int max_two min_two max_three min_three max_four min_four   -- for this text's walks alone
set_option linter.unusedVariables false
set_option linter.unusedSimpArgs false

/-! ### cringlelaw08_SumParts: function 6 -/
mutual
def cringlelaw08_SumParts.l0 : Nat → List (List Int) → List Int → List ByteArray → List (List Int) → Int → Int → Int → Int → Option (Bool)
  | 0, _, _, _, _, _, _, _, _ => none
  | k + 1, x0, x3, x4, x13, x14, x15, x198000, x198001 => if x15 < x14 then (if 0 ≤ x15 then (if x15 < (x13.length : Int) then ((cringlelaw08_long.f (rd_L1 x13 x15)).bind fun t203 => (if t203 = true then (cringlelaw08_SumParts.j1 k x0 x3 x4 (rd_L1 x13 x15) x13 x14 x15 true x198000 x198001) else (cringlelaw08_SumParts.j1 k x0 x3 x4 (rd_L1 x13 x15) x13 x14 x15 (decide ((x3.length : Int) > 3000)) x198000 x198001))) else (none)) else (none)) else (if (x0.length : Int) > 30 then ((cringlelaw08_alive.f).bind fun t213 => (some t213)) else ((sum_Crc.f k x0).bind fun t214 => ((cringleref08_Crc.f k x3).bind fun t215 => (if t214 = t215 then ((sum_Sum_Crc.f x198000 x198001).bind fun t216 => ((cringleref08_Crc.f k x3).bind fun t217 => (if t216 = t217 then ((sum_Sum_Mark.f x198000 x198001).bind fun t218 => ((cringleref08_Mark.f k x3).bind fun t219 => (if t218 = t219 then ((sum_Mark.f k x4).bind fun t220 => ((cringleref08_Marks.f k x4).bind fun t221 => (if t220.toList = t221.toList then ((cringlelaw08_alive.f).bind fun t222 => (some t222)) else (some false)))) else (some false)))) else (some false)))) else (some false)))))
def cringlelaw08_SumParts.j1 : Nat → List (List Int) → List Int → List ByteArray → List Int → List (List Int) → Int → Int → Bool → Int → Int → Option (Bool)
  | 0, _, _, _, _, _, _, _, _, _, _ => none
  | k + 1, x0, x3, x4, x7, x13, x14, x15, x25, x198000, x198001 => if x25 = true then ((cringlelaw08_alive.f).bind fun t204 => (some t204)) else (if x3.length + x7.length < 140737488355328 then (if x4.length < 8796093022208 then ((sum_Sum_Add.f k x198000 x198001 x7).bind fun bt211 => (cringlelaw08_SumParts.l0 k x0 (x3 ++ x7) (x4 ++ [strOfNums x7]) x13 x14 (wrap64 (x15 + 1)) bt211.1 bt211.2)) else (none)) else (none))
end
def cringlelaw08_SumParts.f (k : Nat) (l0 : List (List Int)) : Option (Bool) := (sum_New.f).bind fun bt195 => (if 0 ≤ (mn (l0.length : Int) 30) then (if (mn (l0.length : Int) 30) ≤ (l0.length : Int) then ((some (l0.take ((mn (l0.length : Int) 30) : Int).toNat : List (List Int))).bind fun y198 => (cringlelaw08_SumParts.l0 k l0 ([] : List Int) ([] : List ByteArray) y198 (y198.length : Int) 0 bt195.1 bt195.2)) else (none)) else (none))
theorem cringlelaw08_SumParts.mono_l : ∀ k, (∀ y0 y1 y2 y3 y4 y5 y6 y7, LeO (cringlelaw08_SumParts.l0 k y0 y1 y2 y3 y4 y5 y6 y7) (cringlelaw08_SumParts.l0 (k + 1) y0 y1 y2 y3 y4 y5 y6 y7)) ∧ (∀ y0 y1 y2 y3 y4 y5 y6 y7 y8 y9, LeO (cringlelaw08_SumParts.j1 k y0 y1 y2 y3 y4 y5 y6 y7 y8 y9) (cringlelaw08_SumParts.j1 (k + 1) y0 y1 y2 y3 y4 y5 y6 y7 y8 y9))
  | 0 => ⟨fun _ _ _ _ _ _ _ _ r h => by simp [cringlelaw08_SumParts.l0] at h, fun _ _ _ _ _ _ _ _ _ _ r h => by simp [cringlelaw08_SumParts.j1] at h⟩
  | k + 1 => by
    obtain ⟨ih0, ih1⟩ := cringlelaw08_SumParts.mono_l k
    refine ⟨?_, ?_⟩
    · intro y0 y1 y2 y3 y4 y5 y6 y7
      unfold cringlelaw08_SumParts.l0
      repeat' first
      | (with_reducible exact ih0 _ _ _ _ _ _ _ _)
      | (with_reducible exact ih1 _ _ _ _ _ _ _ _ _ _)
      | (with_reducible exact cringleref08_Crc.mono _ _)
      | (with_reducible exact cringleref08_Mark.mono _ _)
      | (with_reducible exact cringleref08_Marks.mono _ _)
      | (with_reducible exact sum_Crc.mono _ _)
      | (with_reducible exact sum_Mark.mono _ _)
      | (with_reducible exact sum_Sum_Add.mono _ _ _ _)
      | (with_reducible exact LeO.refl _)
      | (with_reducible exact LeO.none _)
      | (with_reducible refine LeO.ite ?_ ?_)
      | (with_reducible refine LeO.bind ?_ (fun _ => ?_))
      | exact ih0 _ _ _ _ _ _ _ _
      | exact ih1 _ _ _ _ _ _ _ _ _ _
      | exact cringleref08_Crc.mono _ _
      | exact cringleref08_Mark.mono _ _
      | exact cringleref08_Marks.mono _ _
      | exact sum_Crc.mono _ _
      | exact sum_Mark.mono _ _
      | exact sum_Sum_Add.mono _ _ _ _
      | exact LeO.none _
      | refine LeO.ite ?_ ?_
      | refine LeO.bind ?_ (fun _ => ?_)
    · intro y0 y1 y2 y3 y4 y5 y6 y7 y8 y9
      unfold cringlelaw08_SumParts.j1
      repeat' first
      | (with_reducible exact ih0 _ _ _ _ _ _ _ _)
      | (with_reducible exact ih1 _ _ _ _ _ _ _ _ _ _)
      | (with_reducible exact cringleref08_Crc.mono _ _)
      | (with_reducible exact cringleref08_Mark.mono _ _)
      | (with_reducible exact cringleref08_Marks.mono _ _)
      | (with_reducible exact sum_Crc.mono _ _)
      | (with_reducible exact sum_Mark.mono _ _)
      | (with_reducible exact sum_Sum_Add.mono _ _ _ _)
      | (with_reducible exact LeO.refl _)
      | (with_reducible exact LeO.none _)
      | (with_reducible refine LeO.ite ?_ ?_)
      | (with_reducible refine LeO.bind ?_ (fun _ => ?_))
      | exact ih0 _ _ _ _ _ _ _ _
      | exact ih1 _ _ _ _ _ _ _ _ _ _
      | exact cringleref08_Crc.mono _ _
      | exact cringleref08_Mark.mono _ _
      | exact cringleref08_Marks.mono _ _
      | exact sum_Crc.mono _ _
      | exact sum_Mark.mono _ _
      | exact sum_Sum_Add.mono _ _ _ _
      | exact LeO.none _
      | refine LeO.ite ?_ ?_
      | refine LeO.bind ?_ (fun _ => ?_)
theorem cringlelaw08_SumParts.mono : ∀ a0 k, LeO (cringlelaw08_SumParts.f k a0) (cringlelaw08_SumParts.f (k + 1) a0) := by
  intro a0 k
  obtain ⟨ih0, ih1⟩ := cringlelaw08_SumParts.mono_l k
  unfold cringlelaw08_SumParts.f
  repeat' first
      | (with_reducible exact ih0 _ _ _ _ _ _ _ _)
      | (with_reducible exact ih1 _ _ _ _ _ _ _ _ _ _)
      | (with_reducible exact cringleref08_Crc.mono _ _)
      | (with_reducible exact cringleref08_Mark.mono _ _)
      | (with_reducible exact cringleref08_Marks.mono _ _)
      | (with_reducible exact sum_Crc.mono _ _)
      | (with_reducible exact sum_Mark.mono _ _)
      | (with_reducible exact sum_Sum_Add.mono _ _ _ _)
      | (with_reducible exact LeO.refl _)
      | (with_reducible exact LeO.none _)
      | (with_reducible refine LeO.ite ?_ ?_)
      | (with_reducible refine LeO.bind ?_ (fun _ => ?_))
      | exact ih0 _ _ _ _ _ _ _ _
      | exact ih1 _ _ _ _ _ _ _ _ _ _
      | exact cringleref08_Crc.mono _ _
      | exact cringleref08_Mark.mono _ _
      | exact cringleref08_Marks.mono _ _
      | exact sum_Crc.mono _ _
      | exact sum_Mark.mono _ _
      | exact sum_Sum_Add.mono _ _ _ _
      | exact LeO.none _
      | refine LeO.ite ?_ ?_
      | refine LeO.bind ?_ (fun _ => ?_)
set_option maxHeartbeats 8000000 in
set_option maxRecDepth 100000 in
theorem cringlelaw08_SumParts.calls (k : Nat) (A0 : Option Addr) (c0 : Nat) (l0 : List (List Int)) (r : Bool) (w : World) (hr0 : Kd.C (Kd.slice 5 (Kd.int .u8)) w A0 l0.length l0) (hc0 : l0.length ≤ c0) (h : cringlelaw08_SumParts.f k l0 = some r) (htrue : Aside0 (r = true)) :
    Calls Try.prog 6 #[.slice A0 l0.length c0] w fun e w' => e = .returned (.bool r) ∧ Below w.heap.size w w' := by
  have hu28 := Try.underlying28
  have HR0 := Aside0.mk hr0
  have HC0 := Aside0.mk hc0
  clear hr0 hc0
  have HB := Aside0.mk (Below.refl w.heap.size w)
  have H : ((sum_New.f).bind fun bt195 => (if 0 ≤ (mn (l0.length : Int) 30) then (if (mn (l0.length : Int) 30) ≤ (l0.length : Int) then ((some (l0.take ((mn (l0.length : Int) 30) : Int).toNat : List (List Int))).bind fun y198 => (cringlelaw08_SumParts.l0 k l0 ([] : List Int) ([] : List ByteArray) y198 (y198.length : Int) 0 bt195.1 bt195.2)) else (none)) else (none))) = some r := h
  clear h
  replace H := Option.bind_eq_some_iff.mp H
  obtain ⟨⟨t195, t196⟩, A20, H⟩ := H
  replace H : (if 0 ≤ (mn (l0.length : Int) 30) then (if (mn (l0.length : Int) 30) ≤ (l0.length : Int) then ((some (l0.take ((mn (l0.length : Int) 30) : Int).toNat : List (List Int))).bind fun y198 => (cringlelaw08_SumParts.l0 k l0 ([] : List Int) ([] : List ByteArray) y198 (y198.length : Int) 0 t195 t196)) else (none)) else (none)) = some r := H
  have A2 := Aside0.mk A20
  clear A20
  obtain ⟨ji3, hji3⟩ : ∃ j_ : Int, (mn (l0.length : Int) 30) = j_ := ⟨_, rfl⟩
  replace H : (if 0 ≤ (ji3) then (if (ji3) ≤ (l0.length : Int) then ((some (l0.take ((ji3) : Int).toNat : List (List Int))).bind fun y198 => (cringlelaw08_SumParts.l0 k l0 ([] : List Int) ([] : List ByteArray) y198 (y198.length : Int) 0 t195 t196)) else (none)) else (none)) = some r := by first | (rw [hji3] at H; exact H) | (simp only [hji3] at H ⊢; exact H)
  (try rw [hji3] at A2)
  (try (have hji3h : ji3 ≤ 30 := by (rw [← hji3]; unfold mn; (repeat' split) <;> omega)))
  (try (have hji3g : ji3 ≤ 64 := by omega))
  (try (have hji3l : 0 ≤ ji3 := by (rw [← hji3]; unfold mn; (repeat' split) <;> omega)))
  (try (have hji3m : 0 ≤ ji3 := by omega))
  have hji3_ : (if 30 < (l0.length : Int) then 30 else (l0.length : Int)) = ji3 := hji3
  by_cases c4 : 0 ≤ (ji3)
  · rw [if_pos c4] at H
    have c4b0 := eq_true c4
    have c4b1 : decide (0 ≤ (ji3)) = true := decide_eq_true c4
    clear c4
    by_cases c5 : (ji3) ≤ (l0.length : Int)
    · rw [if_pos c5] at H
      have c5b0 := eq_true c5
      have c5b1 : decide ((ji3) ≤ (l0.length : Int)) = true := decide_eq_true c5
      clear c5
      obtain ⟨y198, hy198⟩ : ∃ y_ : List (List Int), y_ = (l0.take ((ji3) : Int).toNat) := ⟨_, rfl⟩
      replace H : (cringlelaw08_SumParts.l0 k l0 ([] : List Int) ([] : List ByteArray) y198 (y198.length : Int) 0 t195 t196) = some r := by first | (rw [hy198]; with_reducible exact H) | (have H2_ := (Option.bind_some _ _).symm.trans H; rw [hy198]; with_reducible exact H2_) | (have H2_ := (Option.bind_some _ _).symm.trans H; with_reducible exact H2_) | with_reducible exact H | (rw [hy198]; exact H) | exact H
      have Ny198 := Aside0.mk hy198
      clear hy198
      have H' := Aside0.mk H
      clear H
      go_enter Try.func6, Try.ntmps6
      go_wp2_with (first | ((with_reducible refine gate_callee (f := 9) rfl ?_); refine goesL_ (some 8) rfl rfl Try.func9 (by kernel_rfl) rfl #[] rfl (by (try simp only [List.map_toArray, List.map_cons, List.map_nil]); first | done | rfl | (simp only [List.length_drop, List.length_take]; rfl)) ?_; (with_reducible refine (sum_New.calls  t195 t196 _ A2.out).mono ?_); rintro e w6 ⟨rfl, hb⟩; refine ⟨_, rfl, ?_⟩; have n0_ := Aside0.mk (below_step (by repeat (first | (with_reducible first | exact HB.out | apply below_alloc | apply pw_below_drewN | apply below_drew1) | exact HB.out)) hb); clear HB; have HB := n0_; clear n0_; (try clear hb); (try clear hb2); (try clear hk); (try clear hi)) | ((with_reducible refine gate_dst (N := 5) rfl ?_); (try (refine gate_guard (by rfl) ?_; dsimp only)); refine box_event ?hg (N := 5) ?hd (cs := #[.int .u32 0, .int .u64 0]) (t := 28) ?hr ?_; (case hd => rfl); (case hg => rfl); (case hr => first | (go_simp; done) | (go_simp; rfl)); intro gb197 hg w7 hbox hb; have n0_ := Aside0.mk (below_step (by repeat (first | (with_reducible first | exact HB.out | apply below_alloc | apply pw_below_drewN | apply below_drew1) | exact HB.out)) hb); have n1_ := Aside0.mk (hbox); have n2_ := Aside0.mk ((by rw [hg]; exact (below_size (by repeat (first | (with_reducible first | exact HB.out | apply below_alloc | apply pw_below_drewN | apply below_drew1) | exact HB.out))) : w.heap.size ≤ gb197)); have n3_ := Aside0.mk ((by rw [hg]; exact (below_size (by repeat (first | (with_reducible first | exact HB.out | apply below_alloc | apply pw_below_drewN | apply below_drew1) | exact HB.out))) : w.heap.size ≤ gb197)); clear HB; have HB := n0_; have BK197 := n1_; have GW197 := n2_; have GE197 := n3_; clear n0_ n1_ n2_ n3_; clear hb hbox hg; have hcz8_0 : w7.cell? ⟨gb197, 0, none⟩ = some (.int .u32 0) := (blk_cell BK197.out 0).trans rfl; have hcz8_1 : w7.cell? ⟨gb197, 1, none⟩ = some (.int .u64 0) := (blk_cell BK197.out 1).trans rfl; have hfz8_0 := blk_frozen BK197.out 0; have hfz8_1 := blk_frozen BK197.out 1) | ((with_reducible refine gate_store (t := 28) (p := 5) rfl ?_); refine store_event (t := 28) (p := 5) (v := ?vo_w9) (w1 := ((w7.setCell ⟨gb197, 0, none⟩ (.int .u32 t195)).setCell ⟨gb197, 1, none⟩ (.int .u64 t196))) ?hg ?ho ?hn ?hr ?_; (case ho => rfl); (case hg => rfl); (case hn => rfl); (case hr => first | (go_simp; done) | (go_simp; rfl)); intro w9 hw; have n0_ : Aside0 (w9.heap[gb197]? = some (.cells #[.int .u32 t195, .int .u64 t196] 28 (0, 0))) := ⟨(by rw [hw]; exact (by (with_reducible repeat (first | refine blk_drewN ?_ _ | refine blk_drew ?_ | refine blk_alloc ?_ _)); refine blk_put (cs := #[.int .u32 t195, .int .u64 0]) ?_ 1 _ rfl; (with_reducible repeat (first | refine blk_drewN ?_ _ | refine blk_drew ?_ | refine blk_alloc ?_ _)); refine blk_put (cs := #[.int .u32 0, .int .u64 0]) ?_ 0 _ rfl; (with_reducible repeat (first | refine blk_drewN ?_ _ | refine blk_drew ?_ | refine blk_alloc ?_ _)); exact BK197.out))⟩; have n1_ : Aside0 (Below w.heap.size w w9) := ⟨(by rw [hw]; exact (by repeat (first | (with_reducible first | exact HB.out | apply below_alloc | apply pw_below_drewN | apply below_drew1 | refine below_set ?_ GE197.out) | exact HB.out)))⟩; clear hw; clear BK197; clear HB; have BK197 := n0_; have HB := n1_; clear n0_ n1_; have q10 : ((ji3) : Int) ≤ ((l0.length : Int) : Int) := of_decide_eq_true (by first | (with_reducible assumption) | assumption); obtain ⟨i010, hi010, _, hsz10, _⟩ := info_parts info22; have hroom10 : l0.length ≤ c0 := HC0.out; have hC10 : Kd.C (Kd.slice 5 (Kd.int .u8)) _ A0 l0.length l0 := HR0.out; have hcut10 := cut_to (P := Try.prog) 41 22 .i64 Try.underlying41 hi010 A0 l0.length c0 (ji3) (of_decide_eq_true (by first | (with_reducible assumption) | assumption)) q10 hroom10; have hr10 := Kd.C_take (m := ((ji3) : Int).toNat) hC10 (by omega); have hy10 : y198.length = ((ji3) : Int).toNat := (by rw [Ny198.out, List.length_take]; omega); rw [← Ny198.out] at hr10; rw [← hy10] at hcut10; have HR201 := Aside0.mk hr10; have HC201 := Aside0.mk (show y198.length ≤ c0 from by omega); clear hr10 hC10 hroom10 hi010 hsz10; have KY10 := Aside0.mk hy10; clear hy10; replace q10 := eq_true q10))
      go_loopg [3, 4, 15] k (fun kq v3 v4 v15 w' => ∃ (x3_1 : List Int) (x4_1 : List ByteArray) (x15_1 : Int) (x198000_1 : Int) (x198001_1 : Int), v15 = .int .i64 x15_1 ∧ Aside0 (cringlelaw08_SumParts.l0 kq l0 x3_1 x4_1 y198 (y198.length : Int) x15_1 x198000_1 x198001_1 = some r) ∧ Aside0 (kq ≤ k) ∧ Aside0 (Kd.R (Kd.int .u8) 5 w' w.heap.size (fun _ => True) v3 x3_1) ∧ Aside0 (Kd.R Kd.string 9 w' w.heap.size (fun _ => True) v4 x4_1) ∧ Aside0 (w'.heap[gb197]? = some (.cells #[.int .u32 x198000_1, .int .u64 x198001_1] 28 (0, 0))) ∧ Aside0 (Below w.heap.size w w'))
      case atStart => exact ⟨(([] : List Int)), (([] : List ByteArray)), (0), (t195), (t196), (by first | rfl | (simp; done) | (simp [*]; done)), H', ⟨Nat.le_refl _⟩, ⟨by first | exact Kd.R_nil _ _ _ _ _ | exact Kd.N_nil _ _ _ _ _ | exact Kd.V_nil _ _ _ _ _ | exact Kd.Q_nil _ _ _ _ _ | exact Kd.S_nil _ _ _ _ _⟩, ⟨by first | exact Kd.R_nil _ _ _ _ _ | exact Kd.N_nil _ _ _ _ _ | exact Kd.V_nil _ _ _ _ _ | exact Kd.Q_nil _ _ _ _ _ | exact Kd.S_nil _ _ _ _ _⟩, ⟨by (with_reducible repeat (first | refine blk_drewN ?_ _ | refine blk_drew ?_ | refine blk_alloc ?_ _)); exact BK197.out⟩, ⟨by repeat (first | (with_reducible first | exact HB.out | apply below_alloc | apply pw_below_drewN | apply below_drew1 | refine below_set ?_ GE197.out) | exact HB.out)⟩⟩
      case round =>
        clear H'
        try clear q1
        try clear p2
        try clear c4
        try clear c4b0
        try clear c4b1
        try clear c5
        try clear c5b0
        try clear c5b1
        try clear c6
        try clear c9
        try clear q10
        try clear hcz8_0
        try clear hcz8_1
        try clear hfz8_0
        try clear hfz8_1
        try clear q10
        obtain ⟨x3_1, x4_1, x15_1, x198000_1, x198001_1, rfl, HA, HK1, HO_3, HO_4, BK197, HB⟩ := hrel
        cases gk with
        | zero => exact absurd HA.out (by simp [cringlelaw08_SumParts.l0])
        | succ k1 =>
          have H := HA.out
          clear HA
          simp only [cringlelaw08_SumParts.l0] at H
          by_cases c11 : x15_1 < (y198.length : Int)
          · rw [if_pos c11] at H
            have c11b0 : decide (x15_1 < (y198.length : Int)) = true := decide_eq_true c11
            clear c11
            by_cases c12 : 0 ≤ x15_1
            · rw [if_pos c12] at H
              have c12b0 : decide (0 ≤ x15_1) = true := decide_eq_true c12
              clear c12
              by_cases c13 : x15_1 < (y198.length : Int)
              · rw [if_pos c13] at H
                have c13b0 : decide (x15_1 < (y198.length : Int)) = true := decide_eq_true c13
                clear c13
                have HC14 := Aside0.mk H
                clear H
                have p202 : 0 ≤ (x15_1 : Int) := of_decide_eq_true (by first | (with_reducible assumption) | assumption)
                have q202 : x15_1 < (y198.length : Int) := of_decide_eq_true (by first | (with_reducible assumption) | assumption)
                obtain ⟨ad202, A202_0, c202_0, e202, hx202_0, hl202_0, hi202_0⟩ := at_L1 HR201.out x15_1 p202 q202
                cases e202
                replace hx202_0 := (HB.out.cell (World.block_lt_of_cell? w _ hx202_0)).trans hx202_0
                have HR202_0 := Aside0.mk hi202_0
                have HC202_0 := Aside0.mk hl202_0
                clear hi202_0 hl202_0
                replace p202 := eq_true p202
                replace q202 := eq_true q202
                go_upto_region 7 with (fail)
                go_cut [25] (fun v25 wc => ∃ (kq : Nat) (x25_13 : Bool), v25 = .bool x25_13 ∧ Aside0 (cringlelaw08_SumParts.j1 kq l0 x3_1 x4_1 (rd_L1 y198 x15_1) y198 (y198.length : Int) x15_1 x25_13 x198000_1 x198001_1 = some r) ∧ Aside0 (kq ≤ k1) ∧ Aside0 (Kd.R (Kd.int .u8) 5 wc w.heap.size (fun _ => True) u3 x3_1) ∧ Aside0 (Kd.R Kd.string 9 wc w.heap.size (fun _ => True) u4 x4_1) ∧ Aside0 (wc.heap[gb197]? = some (.cells #[.int .u32 x198000_1, .int .u64 x198001_1] 28 (0, 0))) ∧ Aside0 (Below w.heap.size w wc))
                case first =>
                  have H := HC14.out
                  clear HC14
                  replace H := Option.bind_eq_some_iff.mp H
                  obtain ⟨t203, A150, H⟩ := H
                  replace H : (if t203 = true then (cringlelaw08_SumParts.j1 k1 l0 x3_1 x4_1 (rd_L1 y198 x15_1) y198 (y198.length : Int) x15_1 true x198000_1 x198001_1) else (cringlelaw08_SumParts.j1 k1 l0 x3_1 x4_1 (rd_L1 y198 x15_1) y198 (y198.length : Int) x15_1 (decide ((x3_1.length : Int) > 3000)) x198000_1 x198001_1)) = some r := H
                  have A15 := Aside0.mk A150
                  clear A150
                  by_cases c16 : t203 = true
                  · subst c16
                    have H1 : (cringlelaw08_SumParts.j1 k1 l0 x3_1 x4_1 (rd_L1 y198 x15_1) y198 (y198.length : Int) x15_1 true x198000_1 x198001_1) = some r := by rw [if_pos rfl] at H; exact H
                    clear H
                    have H := H1
                    clear H1
                    have H' := Aside0.mk H
                    clear H
                    go_wp2_with (first | ((with_reducible refine gate_callee (f := 7) rfl ?_); refine goesL_ (some 20) rfl rfl Try.func7 (by kernel_rfl) rfl #[.slice A202_0 (rd_L1 y198 x15_1).length c202_0] rfl (by (try simp only [List.map_toArray, List.map_cons, List.map_nil]); first | done | rfl | (simp only [List.length_drop, List.length_take]; rfl)) ?_; (with_reducible refine (cringlelaw08_long.calls _ _ (rd_L1 y198 x15_1) true _ ?side1 ?side2 A15.out).mono ?_); (case side1 => repeat (first | exact (Kd.C_below HR202_0.out HB.out) | (with_reducible refine Kd.C_alloc ?_ _) | (with_reducible refine Kd.C_drewN ?_ _) | (with_reducible refine Kd.C_drew ?_))); (case side2 => exact HC202_0.out); rintro e w' ⟨rfl, ⟨nd, rfl⟩⟩; refine ⟨_, rfl, ?_⟩))
                    go_meet
                    case rel => exact ⟨_, (true), (by first | rfl | (simp; done) | (simp [*]; done)), H', ⟨by have := HK1.out; first | omega | exact Nat.le_refl _⟩, ⟨by (with_reducible repeat (first | apply Kd.R_alloc | apply Kd.R_drewN | apply Kd.R_drew)); exact HO_3.out⟩, ⟨by (with_reducible repeat (first | apply Kd.R_alloc | apply Kd.R_drewN | apply Kd.R_drew)); exact HO_4.out⟩, ⟨by (with_reducible repeat (first | refine blk_drewN ?_ _ | refine blk_drew ?_ | refine blk_alloc ?_ _)); exact BK197.out⟩, ⟨by repeat (first | (with_reducible first | exact HB.out | apply below_alloc | apply pw_below_drewN | apply below_drew1 | refine below_set ?_ GE197.out) | exact HB.out)⟩⟩
                  · replace c16 := Bool.eq_false_iff.mpr c16
                    subst c16
                    have H1 : (cringlelaw08_SumParts.j1 k1 l0 x3_1 x4_1 (rd_L1 y198 x15_1) y198 (y198.length : Int) x15_1 (decide ((x3_1.length : Int) > 3000)) x198000_1 x198001_1) = some r := by rw [if_neg (show ¬ (false = true) by decide)] at H; exact H
                    clear H
                    have H := H1
                    clear H1
                    have H' := Aside0.mk H
                    clear H
                    go_wp2_with (first | ((with_reducible refine gate_callee (f := 7) rfl ?_); refine goesL_ (some 20) rfl rfl Try.func7 (by kernel_rfl) rfl #[.slice A202_0 (rd_L1 y198 x15_1).length c202_0] rfl (by (try simp only [List.map_toArray, List.map_cons, List.map_nil]); first | done | rfl | (simp only [List.length_drop, List.length_take]; rfl)) ?_; (with_reducible refine (cringlelaw08_long.calls _ _ (rd_L1 y198 x15_1) false _ ?side1 ?side2 A15.out).mono ?_); (case side1 => repeat (first | exact (Kd.C_below HR202_0.out HB.out) | (with_reducible refine Kd.C_alloc ?_ _) | (with_reducible refine Kd.C_drewN ?_ _) | (with_reducible refine Kd.C_drew ?_))); (case side2 => exact HC202_0.out); rintro e w' ⟨rfl, ⟨nd, rfl⟩⟩; refine ⟨_, rfl, ?_⟩; obtain ⟨Ao17, co17, eo17⟩ := Kd.R_slice HO_3.out; subst eo17))
                    go_meet
                    case rel => exact ⟨_, (decide ((x3_1.length : Int) > 3000)), (by first | rfl | (simp; done) | (simp [*]; done)), H', ⟨by have := HK1.out; first | omega | exact Nat.le_refl _⟩, ⟨by (with_reducible repeat (first | apply Kd.R_alloc | apply Kd.R_drewN | apply Kd.R_drew)); exact HO_3.out⟩, ⟨by (with_reducible repeat (first | apply Kd.R_alloc | apply Kd.R_drewN | apply Kd.R_drew)); exact HO_4.out⟩, ⟨by (with_reducible repeat (first | refine blk_drewN ?_ _ | refine blk_drew ?_ | refine blk_alloc ?_ _)); exact BK197.out⟩, ⟨by repeat (first | (with_reducible first | exact HB.out | apply below_alloc | apply pw_below_drewN | apply below_drew1 | refine below_set ?_ GE197.out) | exact HB.out)⟩⟩
                case rest =>
                  clear HC14
                  try clear c1
                  try clear q1
                  try clear c2
                  try clear p2
                  try clear q2
                  try clear hx2
                  try clear c4
                  try clear c4b0
                  try clear c4b1
                  try clear c5
                  try clear c5b0
                  try clear c5b1
                  try clear c6
                  try clear c7
                  try clear c9
                  try clear q10
                  try clear c11
                  try clear c11b0
                  try clear c12
                  try clear c12b0
                  try clear c13
                  try clear c13b0
                  try clear c16
                  try clear hcz8_0
                  try clear hcz8_1
                  try clear hfz8_0
                  try clear hfz8_1
                  try clear hx202_0
                  try clear p2
                  try clear p202
                  try clear q1
                  try clear q10
                  try clear q202
                  obtain ⟨kq, x25_13, rfl, HA, HJ13, HO_3, HO_4, BK197, HB⟩ := hcut
                  cases kq with
                  | zero => exact absurd HA.out (by simp [cringlelaw08_SumParts.j1])
                  | succ kj13 =>
                    have H := HA.out
                    clear HA
                    simp only [cringlelaw08_SumParts.j1] at H
                    by_cases c18 : x25_13 = true
                    · subst c18
                      have H1 : ((cringlelaw08_alive.f).bind fun t204 => (some t204)) = some r := by rw [if_pos rfl] at H; exact H
                      clear H
                      have H := H1
                      clear H1
                      replace H := Option.bind_eq_some_iff.mp H
                      obtain ⟨t204, A190, H⟩ := H
                      replace H : (some t204) = some r := H
                      have A19 := Aside0.mk A190
                      clear A190
                      obtain rfl := Option.some.inj H
                      go_wp2_with (first | ((with_reducible refine gate_callee (f := 8) rfl ?_); refine goesL_ (some 26) rfl rfl Try.func8 (by kernel_rfl) rfl #[] rfl (by (try simp only [List.map_toArray, List.map_cons, List.map_nil]); first | done | rfl | (simp only [List.length_drop, List.length_take]; rfl)) ?_; (with_reducible refine (cringlelaw08_alive.calls  t204 _ A19.out).mono ?_); rintro e w20 ⟨rfl, hb⟩; refine ⟨_, rfl, ?_⟩; have n0_ := Aside0.mk (Kd.R_below (by (with_reducible repeat (first | apply Kd.R_alloc | apply Kd.R_drewN | apply Kd.R_drew)); exact HO_3.out) hb); have n1_ := Aside0.mk (Kd.R_below (by (with_reducible repeat (first | apply Kd.R_alloc | apply Kd.R_drewN | apply Kd.R_drew)); exact HO_4.out) hb); have n2_ := Aside0.mk (blk_below (g := gb197) (o := .cells #[.int .u32 x198000_1, .int .u64 x198001_1] 28 (0, 0)) (by (with_reducible repeat (first | refine blk_drewN ?_ _ | refine blk_drew ?_ | refine blk_alloc ?_ _)); exact BK197.out) hb); have n3_ := Aside0.mk (below_step (by repeat (first | (with_reducible first | exact HB.out | apply below_alloc | apply pw_below_drewN | apply below_drew1 | refine below_set ?_ GE197.out) | exact HB.out)) hb); clear HO_3; clear HO_4; clear BK197; clear HB; have HO_3 := n0_; have HO_4 := n1_; have BK197 := n2_; have HB := n3_; clear n0_ n1_ n2_ n3_; (try clear hb); (try clear hb2); (try clear hk); (try clear hi)))
                      go_ret
                      exact ⟨by first | rfl | (simp [errW_none, errW_some] <;> rfl) | (simp only [← hji3]; first | rfl | (simp [errW_none, errW_some] <;> rfl)) | (simp [*, errW_none, errW_some] <;> rfl), by repeat (first | (with_reducible first | exact HB.out | apply below_alloc | apply pw_below_drewN | apply below_drew1 | refine below_set ?_ GE197.out) | exact HB.out)⟩
                    · replace c18 := Bool.eq_false_iff.mpr c18
                      subst c18
                      have H1 : (if x3_1.length + (rd_L1 y198 x15_1).length < 140737488355328 then (if x4_1.length < 8796093022208 then ((sum_Sum_Add.f kj13 x198000_1 x198001_1 (rd_L1 y198 x15_1)).bind fun bt211 => (cringlelaw08_SumParts.l0 kj13 l0 (x3_1 ++ (rd_L1 y198 x15_1)) (x4_1 ++ [strOfNums (rd_L1 y198 x15_1)]) y198 (y198.length : Int) (wrap64 (x15_1 + 1)) bt211.1 bt211.2)) else (none)) else (none)) = some r := by rw [if_neg (show ¬ (false = true) by decide)] at H; exact H
                      clear H
                      have H := H1
                      clear H1
                      by_cases c21 : x3_1.length + (rd_L1 y198 x15_1).length < 140737488355328
                      · rw [if_pos c21] at H
                        have LMc21 := Aside0.mk c21
                        clear c21
                        obtain ⟨y205, hy205⟩ : ∃ y_ : List Int, y_ = (x3_1 ++ (rd_L1 y198 x15_1)) := ⟨_, rfl⟩
                        replace H : (if x4_1.length < 8796093022208 then ((sum_Sum_Add.f kj13 x198000_1 x198001_1 (rd_L1 y198 x15_1)).bind fun bt211 => (cringlelaw08_SumParts.l0 kj13 l0 y205 (x4_1 ++ [strOfNums (rd_L1 y198 x15_1)]) y198 (y198.length : Int) (wrap64 (x15_1 + 1)) bt211.1 bt211.2)) else (none)) = some r := by first | (rw [hy205]; with_reducible exact H) | (have H2_ := (Option.bind_some _ _).symm.trans H; rw [hy205]; with_reducible exact H2_) | (have H2_ := (Option.bind_some _ _).symm.trans H; with_reducible exact H2_) | with_reducible exact H | (rw [hy205]; exact H) | exact H
                        have Ny205 := Aside0.mk hy205
                        clear hy205
                        by_cases c22 : x4_1.length < 8796093022208
                        · rw [if_pos c22] at H
                          have LMc22 := Aside0.mk c22
                          clear c22
                          obtain ⟨y208, hy208⟩ : ∃ y_ : List ByteArray, y_ = (x4_1 ++ [strOfNums (rd_L1 y198 x15_1)]) := ⟨_, rfl⟩
                          replace H : ((sum_Sum_Add.f kj13 x198000_1 x198001_1 (rd_L1 y198 x15_1)).bind fun bt211 => (cringlelaw08_SumParts.l0 kj13 l0 y205 y208 y198 (y198.length : Int) (wrap64 (x15_1 + 1)) bt211.1 bt211.2)) = some r := by first | (rw [hy208]; with_reducible exact H) | (have H2_ := (Option.bind_some _ _).symm.trans H; rw [hy208]; with_reducible exact H2_) | (have H2_ := (Option.bind_some _ _).symm.trans H; with_reducible exact H2_) | with_reducible exact H | (rw [hy208]; exact H) | exact H
                          have Ny208 := Aside0.mk hy208
                          clear hy208
                          replace H := Option.bind_eq_some_iff.mp H
                          obtain ⟨⟨t211, t212⟩, A230, H⟩ := H
                          replace H : (cringlelaw08_SumParts.l0 kj13 l0 y205 y208 y198 (y198.length : Int) (wrap64 (x15_1 + 1)) t211 t212) = some r := H
                          have A23 := Aside0.mk A230
                          clear A230
                          have H' := Aside0.mk H
                          clear H
                          go_wp2_with (first | ((with_reducible refine gate_builtin (b := .append) (xs := #[.tmp 27, .tmp 28]) rfl ?_); (try (refine gate_guard (by rfl) ?_; dsimp only)); at_builtin; refine Kd.R_append_rows (Kd.int .u8) (w0 := w) w.heap.size rfl (.tmp 27) (.tmp 28) 22 5 (.int .u8 0) 1 rfl Try.underlying22 info5 rfl (by decide) (by omega) u3 x3_1 (rd_L1 y198 x15_1) _ _ _ (fun _ => True) (fun _ => False) rfl rfl ?aO ?aR (fun _ _ h => h) (fun _ h => h.elim) ?aF ?aB ?aS ?aL ?_; (case aR => repeat (first | exact (Kd.C_below HR202_0.out HB.out) | (with_reducible refine Kd.C_alloc ?_ _) | (with_reducible refine Kd.C_drewN ?_ _) | (with_reducible refine Kd.C_drew ?_))); (case aB => exact (by repeat (first | (with_reducible first | exact HB.out | apply below_alloc | apply pw_below_drewN | apply below_drew1 | refine below_set ?_ GE197.out) | exact HB.out))); (case aF => exact (fun _ _ => trivial)); (case aO => exact (by (with_reducible repeat (first | apply Kd.R_alloc | apply Kd.R_drewN | apply Kd.R_drew)); exact HO_3.out)); (case aS => exact (below_size (by repeat (first | (with_reducible first | exact HB.out | apply below_alloc | apply pw_below_drewN | apply below_drew1 | refine below_set ?_ GE197.out) | exact HB.out)))); (case aL => have := LMc21.out; omega); intro v206 w24 ho hb hg hat; rw [← Ny205.out] at ho; have n0_ := Aside0.mk (Kd.R_over' (by (with_reducible repeat (first | apply Kd.R_alloc | apply Kd.R_drewN | apply Kd.R_drew)); exact HO_4.out) (Kd.R_typed (by (with_reducible repeat (first | apply Kd.R_alloc | apply Kd.R_drewN | apply Kd.R_drew)); exact HO_3.out)) (by decide) hg); have n1_ := Aside0.mk (blk_grown (g := gb197) (o := .cells #[.int .u32 x198000_1, .int .u64 x198001_1] 28 (0, 0)) (by (with_reducible repeat (first | refine blk_drewN ?_ _ | refine blk_drew ?_ | refine blk_alloc ?_ _)); exact BK197.out) hg (Kd.R_ne HO_3.out BK197.out (by decide))); have n2_ := Aside0.mk (hb); have n3_ := Aside0.mk (ho); clear HO_4; clear BK197; clear HB; clear HO_3; have HO_4 := n0_; have BK197 := n1_; have HB := n2_; have HO207 := n3_; clear n0_ n1_ n2_ n3_; clear ho hb hg hat; have hcv25 := Kd.C_string (P := Try.prog) (A := A202_0) (c := c202_0) Try.underlying22 Try.underlying5 Try.underlying9 (Kd.C_below HR202_0.out HB.out)) | ((with_reducible refine gate_builtin (b := .append) (xs := #[.tmp 30, .tmp 33]) rfl ?_); (try (refine gate_guard (by rfl) ?_; dsimp only)); at_builtin; refine Kd.R_append Kd.string (w0 := w) w.heap.size rfl (.tmp 30) (.tmp 33) 42 9 (.string ⟨#[]⟩) 16 rfl Try.underlying42 info9 rfl (by decide) (by omega) u4 x4_1 (strOfNums (rd_L1 y198 x15_1)) [.string (strOfNums (rd_L1 y198 x15_1))] (fun _ => True) (fun _ => False) rfl rfl ?aP (fun _ hk => hk.elim) ?aF ?aO ?aB ?aS ?aL ?_; (case aP => exact rfl); (case aB => exact (by repeat (first | (with_reducible first | exact HB.out | apply below_alloc | apply pw_below_drewN | apply below_drew1 | refine below_set ?_ GE197.out) | exact HB.out))); (case aF => exact (fun _ _ => trivial)); (case aO => exact (by (with_reducible repeat (first | apply Kd.R_alloc | apply Kd.R_drewN | apply Kd.R_drew)); exact HO_4.out)); (case aS => exact (below_size (by repeat (first | (with_reducible first | exact HB.out | apply below_alloc | apply pw_below_drewN | apply below_drew1 | refine below_set ?_ GE197.out) | exact HB.out)))); (case aL => have := LMc22.out; omega); intro v209 w26 ho hb hg hat; rw [← Ny208.out] at ho; have n0_ := Aside0.mk (blk_grown (g := gb197) (o := .cells #[.int .u32 x198000_1, .int .u64 x198001_1] 28 (0, 0)) (by (with_reducible repeat (first | refine blk_drewN ?_ _ | refine blk_drew ?_ | refine blk_alloc ?_ _)); exact BK197.out) hg (Kd.R_ne HO_4.out BK197.out (by decide))); have n1_ := Aside0.mk (Kd.R_over' (by (with_reducible repeat (first | apply Kd.R_alloc | apply Kd.R_drewN | apply Kd.R_drew)); exact HO207.out) (Kd.R_typed (by (with_reducible repeat (first | apply Kd.R_alloc | apply Kd.R_drewN | apply Kd.R_drew)); exact HO_4.out)) (by decide) hg); have n2_ := Aside0.mk (hb); have n3_ := Aside0.mk (ho); clear BK197; clear HO207; clear HB; clear HO_4; have BK197 := n0_; have HO207 := n1_; have HB := n2_; have HO210 := n3_; clear n0_ n1_ n2_ n3_; clear ho hb hg hat; have hcz27_0 : w26.cell? ⟨gb197, 0, none⟩ = some (.int .u32 x198000_1) := (blk_cell BK197.out 0).trans rfl; have hcz27_1 : w26.cell? ⟨gb197, 1, none⟩ = some (.int .u64 x198001_1) := (blk_cell BK197.out 1).trans rfl; have hfz27_0 := blk_frozen BK197.out 0; have hfz27_1 := blk_frozen BK197.out 1) | ((with_reducible refine gate_callee (f := 10) rfl ?_); refine goesL_ (some 37) rfl rfl Try.func10 (by kernel_rfl) rfl #[.agg #[.int .u32 x198000_1, .int .u64 x198001_1], .slice A202_0 (rd_L1 y198 x15_1).length c202_0] rfl (by (try simp only [List.map_toArray, List.map_cons, List.map_nil]); first | done | rfl | (simp only [List.length_drop, List.length_take]; rfl)) ?_; (with_reducible refine (sum_Sum_Add.calls kj13 x198000_1 x198001_1 _ _ (rd_L1 y198 x15_1) t211 t212 _ ?side1 ?side2 A23.out).mono ?_); (case side1 => repeat (first | exact (Kd.C_below HR202_0.out HB.out) | (with_reducible refine Kd.C_alloc ?_ _) | (with_reducible refine Kd.C_drewN ?_ _) | (with_reducible refine Kd.C_drew ?_))); (case side2 => exact HC202_0.out); rintro e w28 ⟨rfl, hb⟩; refine ⟨_, rfl, ?_⟩; have n0_ := Aside0.mk (Kd.R_below (by (with_reducible repeat (first | apply Kd.R_alloc | apply Kd.R_drewN | apply Kd.R_drew)); exact HO207.out) hb); have n1_ := Aside0.mk (Kd.R_below (by (with_reducible repeat (first | apply Kd.R_alloc | apply Kd.R_drewN | apply Kd.R_drew)); exact HO210.out) hb); have n2_ := Aside0.mk (blk_below (g := gb197) (o := .cells #[.int .u32 x198000_1, .int .u64 x198001_1] 28 (0, 0)) (by (with_reducible repeat (first | refine blk_drewN ?_ _ | refine blk_drew ?_ | refine blk_alloc ?_ _)); exact BK197.out) hb); have n3_ := Aside0.mk (below_step (by repeat (first | (with_reducible first | exact HB.out | apply below_alloc | apply pw_below_drewN | apply below_drew1 | refine below_set ?_ GE197.out) | exact HB.out)) hb); clear HO207; clear HO210; clear BK197; clear HB; have HO207 := n0_; have HO210 := n1_; have BK197 := n2_; have HB := n3_; clear n0_ n1_ n2_ n3_; (try clear hb); (try clear hb2); (try clear hk); (try clear hi); have hcz29_0 : w28.cell? ⟨gb197, 0, none⟩ = some (.int .u32 x198000_1) := (blk_cell BK197.out 0).trans rfl; have hcz29_1 : w28.cell? ⟨gb197, 1, none⟩ = some (.int .u64 x198001_1) := (blk_cell BK197.out 1).trans rfl; have hfz29_0 := blk_frozen BK197.out 0; have hfz29_1 := blk_frozen BK197.out 1))
                          go_roundg kj13
                          case measure => have := HK1.out; have := HJ13.out; omega
                          case rel => exact ⟨(y205), (y208), (wrap64 (x15_1 + 1)), (t211), (t212), (by first | rfl | (simp; done) | (simp [*]; done)), H', ⟨by have := HK1.out; have := HJ13.out; omega⟩, ⟨by (with_reducible repeat (first | apply Kd.R_alloc | apply Kd.R_drewN | apply Kd.R_drew)); exact Kd.R_mono (Kd.R_far (p := ⟨gb197, 1, none⟩) (Kd.R_far (p := ⟨gb197, 0, none⟩) (Kd.R_types HO207.out BK197.out (by decide)) (fun _ hk => hk.2) (.int .u32 t211)) (fun _ hk => hk.2) (.int .u64 t212)) (fun _ hk => trivial)⟩, ⟨by (with_reducible repeat (first | apply Kd.R_alloc | apply Kd.R_drewN | apply Kd.R_drew)); exact Kd.R_mono (Kd.R_far (p := ⟨gb197, 1, none⟩) (Kd.R_far (p := ⟨gb197, 0, none⟩) (Kd.R_types HO210.out BK197.out (by decide)) (fun _ hk => hk.2) (.int .u32 t211)) (fun _ hk => hk.2) (.int .u64 t212)) (fun _ hk => trivial)⟩, ⟨by (with_reducible repeat (first | refine blk_drewN ?_ _ | refine blk_drew ?_ | refine blk_alloc ?_ _)); refine blk_put (cs := #[.int .u32 t211, .int .u64 x198001_1]) ?_ 1 _ rfl; (with_reducible repeat (first | refine blk_drewN ?_ _ | refine blk_drew ?_ | refine blk_alloc ?_ _)); refine blk_put (cs := #[.int .u32 x198000_1, .int .u64 x198001_1]) ?_ 0 _ rfl; (with_reducible repeat (first | refine blk_drewN ?_ _ | refine blk_drew ?_ | refine blk_alloc ?_ _)); exact BK197.out⟩, ⟨by repeat (first | (with_reducible first | exact HB.out | apply below_alloc | apply pw_below_drewN | apply below_drew1 | refine below_set ?_ GE197.out) | exact HB.out)⟩⟩
                        · rw [if_neg c22] at H
                          exact absurd H (by simp)
                      · rw [if_neg c21] at H
                        exact absurd H (by simp)
              · rw [if_neg c13] at H
                exact absurd H (by simp)
            · rw [if_neg c12] at H
              exact absurd H (by simp)
          · rw [if_neg c11] at H
            have c11b0 : decide (x15_1 < (y198.length : Int)) = false := decide_eq_false c11
            clear c11
            by_cases c30 : (l0.length : Int) > 30
            · rw [if_pos c30] at H
              have c30b0 : decide (30 < (l0.length : Int)) = true := decide_eq_true c30
              have c30b1 : decide (30 < l0.length) = true := decide_eq_true (by omega)
              clear c30
              replace H := Option.bind_eq_some_iff.mp H
              obtain ⟨t213, A310, H⟩ := H
              replace H : (some t213) = some r := H
              have A31 := Aside0.mk A310
              clear A310
              obtain rfl := Option.some.inj H
              go_wp2_with (first | ((with_reducible refine gate_callee (f := 8) rfl ?_); refine goesL_ (some 42) rfl rfl Try.func8 (by kernel_rfl) rfl #[] rfl (by (try simp only [List.map_toArray, List.map_cons, List.map_nil]); first | done | rfl | (simp only [List.length_drop, List.length_take]; rfl)) ?_; (with_reducible refine (cringlelaw08_alive.calls  t213 _ A31.out).mono ?_); rintro e w32 ⟨rfl, hb⟩; refine ⟨_, rfl, ?_⟩; have n0_ := Aside0.mk (Kd.R_below (by (with_reducible repeat (first | apply Kd.R_alloc | apply Kd.R_drewN | apply Kd.R_drew)); exact HO_3.out) hb); have n1_ := Aside0.mk (Kd.R_below (by (with_reducible repeat (first | apply Kd.R_alloc | apply Kd.R_drewN | apply Kd.R_drew)); exact HO_4.out) hb); have n2_ := Aside0.mk (blk_below (g := gb197) (o := .cells #[.int .u32 x198000_1, .int .u64 x198001_1] 28 (0, 0)) (by (with_reducible repeat (first | refine blk_drewN ?_ _ | refine blk_drew ?_ | refine blk_alloc ?_ _)); exact BK197.out) hb); have n3_ := Aside0.mk (below_step (by repeat (first | (with_reducible first | exact HB.out | apply below_alloc | apply pw_below_drewN | apply below_drew1 | refine below_set ?_ GE197.out) | exact HB.out)) hb); clear HO_3; clear HO_4; clear BK197; clear HB; have HO_3 := n0_; have HO_4 := n1_; have BK197 := n2_; have HB := n3_; clear n0_ n1_ n2_ n3_; (try clear hb); (try clear hb2); (try clear hk); (try clear hi)))
              go_ret
              exact ⟨by first | rfl | (simp [errW_none, errW_some] <;> rfl) | (simp only [← hji3]; first | rfl | (simp [errW_none, errW_some] <;> rfl)) | (simp [*, errW_none, errW_some] <;> rfl), by repeat (first | (with_reducible first | exact HB.out | apply below_alloc | apply pw_below_drewN | apply below_drew1 | refine below_set ?_ GE197.out) | exact HB.out)⟩
            · rw [if_neg c30] at H
              have c30b0 : decide (30 < (l0.length : Int)) = false := decide_eq_false c30
              have c30b1 : decide (30 < l0.length) = false := decide_eq_false (by omega)
              clear c30
              replace H := Option.bind_eq_some_iff.mp H
              obtain ⟨t214, A330, H⟩ := H
              replace H : ((cringleref08_Crc.f k1 x3_1).bind fun t215 => (if t214 = t215 then ((sum_Sum_Crc.f x198000_1 x198001_1).bind fun t216 => ((cringleref08_Crc.f k1 x3_1).bind fun t217 => (if t216 = t217 then ((sum_Sum_Mark.f x198000_1 x198001_1).bind fun t218 => ((cringleref08_Mark.f k1 x3_1).bind fun t219 => (if t218 = t219 then ((sum_Mark.f k1 x4_1).bind fun t220 => ((cringleref08_Marks.f k1 x4_1).bind fun t221 => (if t220.toList = t221.toList then ((cringlelaw08_alive.f).bind fun t222 => (some t222)) else (some false)))) else (some false)))) else (some false)))) else (some false))) = some r := H
              have A33 := Aside0.mk A330
              clear A330
              replace H := Option.bind_eq_some_iff.mp H
              obtain ⟨t215, A340, H⟩ := H
              replace H : (if t214 = t215 then ((sum_Sum_Crc.f x198000_1 x198001_1).bind fun t216 => ((cringleref08_Crc.f k1 x3_1).bind fun t217 => (if t216 = t217 then ((sum_Sum_Mark.f x198000_1 x198001_1).bind fun t218 => ((cringleref08_Mark.f k1 x3_1).bind fun t219 => (if t218 = t219 then ((sum_Mark.f k1 x4_1).bind fun t220 => ((cringleref08_Marks.f k1 x4_1).bind fun t221 => (if t220.toList = t221.toList then ((cringlelaw08_alive.f).bind fun t222 => (some t222)) else (some false)))) else (some false)))) else (some false)))) else (some false)) = some r := H
              have A34 := Aside0.mk A340
              clear A340
              by_cases c35 : t214 = t215
              · rw [if_pos c35] at H
                have c35b0 : (t214 == t215) = true := beq_iff_eq.mpr c35
                have c35b1 : (t214 != t215) = false := bne_eq_false_iff_eq.mpr c35
                clear c35
                replace H := Option.bind_eq_some_iff.mp H
                obtain ⟨t216, A360, H⟩ := H
                replace H : ((cringleref08_Crc.f k1 x3_1).bind fun t217 => (if t216 = t217 then ((sum_Sum_Mark.f x198000_1 x198001_1).bind fun t218 => ((cringleref08_Mark.f k1 x3_1).bind fun t219 => (if t218 = t219 then ((sum_Mark.f k1 x4_1).bind fun t220 => ((cringleref08_Marks.f k1 x4_1).bind fun t221 => (if t220.toList = t221.toList then ((cringlelaw08_alive.f).bind fun t222 => (some t222)) else (some false)))) else (some false)))) else (some false))) = some r := H
                have A36 := Aside0.mk A360
                clear A360
                replace H := Option.bind_eq_some_iff.mp H
                obtain ⟨t217, A370, H⟩ := H
                replace H : (if t216 = t217 then ((sum_Sum_Mark.f x198000_1 x198001_1).bind fun t218 => ((cringleref08_Mark.f k1 x3_1).bind fun t219 => (if t218 = t219 then ((sum_Mark.f k1 x4_1).bind fun t220 => ((cringleref08_Marks.f k1 x4_1).bind fun t221 => (if t220.toList = t221.toList then ((cringlelaw08_alive.f).bind fun t222 => (some t222)) else (some false)))) else (some false)))) else (some false)) = some r := H
                have A37 := Aside0.mk A370
                clear A370
                by_cases c38 : t216 = t217
                · rw [if_pos c38] at H
                  have c38b0 : (t216 == t217) = true := beq_iff_eq.mpr c38
                  have c38b1 : (t216 != t217) = false := bne_eq_false_iff_eq.mpr c38
                  clear c38
                  replace H := Option.bind_eq_some_iff.mp H
                  obtain ⟨t218, A390, H⟩ := H
                  replace H : ((cringleref08_Mark.f k1 x3_1).bind fun t219 => (if t218 = t219 then ((sum_Mark.f k1 x4_1).bind fun t220 => ((cringleref08_Marks.f k1 x4_1).bind fun t221 => (if t220.toList = t221.toList then ((cringlelaw08_alive.f).bind fun t222 => (some t222)) else (some false)))) else (some false))) = some r := H
                  have A39 := Aside0.mk A390
                  clear A390
                  replace H := Option.bind_eq_some_iff.mp H
                  obtain ⟨t219, A400, H⟩ := H
                  replace H : (if t218 = t219 then ((sum_Mark.f k1 x4_1).bind fun t220 => ((cringleref08_Marks.f k1 x4_1).bind fun t221 => (if t220.toList = t221.toList then ((cringlelaw08_alive.f).bind fun t222 => (some t222)) else (some false)))) else (some false)) = some r := H
                  have A40 := Aside0.mk A400
                  clear A400
                  by_cases c41 : t218 = t219
                  · rw [if_pos c41] at H
                    have c41b0 : (t218 == t219) = true := beq_iff_eq.mpr c41
                    have c41b1 : (t218 != t219) = false := bne_eq_false_iff_eq.mpr c41
                    clear c41
                    replace H := Option.bind_eq_some_iff.mp H
                    obtain ⟨t220, A420, H⟩ := H
                    replace H : ((cringleref08_Marks.f k1 x4_1).bind fun t221 => (if t220.toList = t221.toList then ((cringlelaw08_alive.f).bind fun t222 => (some t222)) else (some false))) = some r := H
                    have A42 := Aside0.mk A420
                    clear A420
                    replace H := Option.bind_eq_some_iff.mp H
                    obtain ⟨t221, A430, H⟩ := H
                    replace H : (if t220.toList = t221.toList then ((cringlelaw08_alive.f).bind fun t222 => (some t222)) else (some false)) = some r := H
                    have A43 := Aside0.mk A430
                    clear A430
                    by_cases c44 : t220.toList = t221.toList
                    · rw [if_pos c44] at H
                      have c44b0 : (t220.toList == t221.toList) = true := beq_iff_eq.mpr c44
                      have c44b1 : (t220.toList != t221.toList) = false := bne_eq_false_iff_eq.mpr c44
                      clear c44
                      replace H := Option.bind_eq_some_iff.mp H
                      obtain ⟨t222, A450, H⟩ := H
                      replace H : (some t222) = some r := H
                      have A45 := Aside0.mk A450
                      clear A450
                      obtain rfl := Option.some.inj H
                      go_wp2_with (first | ((with_reducible refine gate_callee (f := 17) rfl ?_); refine goesL_ (some 44) rfl rfl Try.func17 (by kernel_rfl) rfl #[.slice A0 l0.length c0] rfl (by (try simp only [List.map_toArray, List.map_cons, List.map_nil]); first | done | rfl | (simp only [List.length_drop, List.length_take]; rfl)) ?_; (with_reducible refine (sum_Crc.calls k1 _ _ l0 t214 _ ?side1 ?side2 A33.out).mono ?_); (case side1 => repeat (first | exact (Kd.C_below HR0.out HB.out) | (with_reducible refine Kd.C_alloc ?_ _) | (with_reducible refine Kd.C_drewN ?_ _) | (with_reducible refine Kd.C_drew ?_))); (case side2 => exact HC0.out); rintro e w46 ⟨rfl, hb⟩; refine ⟨_, rfl, ?_⟩; have n0_ := Aside0.mk (Kd.R_below (by (with_reducible repeat (first | apply Kd.R_alloc | apply Kd.R_drewN | apply Kd.R_drew)); exact HO_3.out) hb); have n1_ := Aside0.mk (Kd.R_below (by (with_reducible repeat (first | apply Kd.R_alloc | apply Kd.R_drewN | apply Kd.R_drew)); exact HO_4.out) hb); have n2_ := Aside0.mk (blk_below (g := gb197) (o := .cells #[.int .u32 x198000_1, .int .u64 x198001_1] 28 (0, 0)) (by (with_reducible repeat (first | refine blk_drewN ?_ _ | refine blk_drew ?_ | refine blk_alloc ?_ _)); exact BK197.out) hb); have n3_ := Aside0.mk (below_step (by repeat (first | (with_reducible first | exact HB.out | apply below_alloc | apply pw_below_drewN | apply below_drew1 | refine below_set ?_ GE197.out) | exact HB.out)) hb); clear HO_3; clear HO_4; clear BK197; clear HB; have HO_3 := n0_; have HO_4 := n1_; have BK197 := n2_; have HB := n3_; clear n0_ n1_ n2_ n3_; (try clear hb); (try clear hb2); (try clear hk); (try clear hi); obtain ⟨Ao47, co47, eo47⟩ := Kd.R_slice HO_3.out; subst eo47) | ((with_reducible refine gate_callee (f := 12) rfl ?_); refine goesL_ (some 46) rfl rfl Try.func12 (by kernel_rfl) rfl #[.slice Ao47 x3_1.length co47] rfl (by (try simp only [List.map_toArray, List.map_cons, List.map_nil]); first | done | rfl | (simp only [List.length_drop, List.length_take]; rfl)) ?_; (with_reducible refine (cringleref08_Crc.calls k1 _ _ x3_1 t215 _ ?side1 ?side2 A34.out).mono ?_); (case side1 => repeat (first | exact (Kd.R_reads' HO_3.out).2.2 | (with_reducible refine Kd.C_alloc ?_ _) | (with_reducible refine Kd.C_drewN ?_ _) | (with_reducible refine Kd.C_drew ?_))); (case side2 => exact (Kd.R_reads' HO_3.out).2.1); rintro e w' ⟨rfl, ⟨nd, rfl⟩⟩; refine ⟨_, rfl, ?_⟩; have hcz48_0 : w46.cell? ⟨gb197, 0, none⟩ = some (.int .u32 x198000_1) := (blk_cell BK197.out 0).trans rfl; have hcz48_1 : w46.cell? ⟨gb197, 1, none⟩ = some (.int .u64 x198001_1) := (blk_cell BK197.out 1).trans rfl; have hfz48_0 := blk_frozen BK197.out 0; have hfz48_1 := blk_frozen BK197.out 1) | (go_at_call 11; (with_reducible refine (sum_Sum_Crc.calls x198000_1 x198001_1 t216 _ A36.out).mono ?_); rintro e w49 ⟨rfl, hb⟩; have n0_ := Aside0.mk (Kd.R_below (by (with_reducible repeat (first | apply Kd.R_alloc | apply Kd.R_drewN | apply Kd.R_drew)); exact HO_3.out) hb); have n1_ := Aside0.mk (Kd.R_below (by (with_reducible repeat (first | apply Kd.R_alloc | apply Kd.R_drewN | apply Kd.R_drew)); exact HO_4.out) hb); have n2_ := Aside0.mk (blk_below (g := gb197) (o := .cells #[.int .u32 x198000_1, .int .u64 x198001_1] 28 (0, 0)) (by (with_reducible repeat (first | refine blk_drewN ?_ _ | refine blk_drew ?_ | refine blk_alloc ?_ _)); exact BK197.out) hb); have n3_ := Aside0.mk (below_step (by repeat (first | (with_reducible first | exact HB.out | apply below_alloc | apply pw_below_drewN | apply below_drew1 | refine below_set ?_ GE197.out) | exact HB.out)) hb); clear HO_3; clear HO_4; clear BK197; clear HB; have HO_3 := n0_; have HO_4 := n1_; have BK197 := n2_; have HB := n3_; clear n0_ n1_ n2_ n3_; (try clear hb); (try clear hb2); (try clear hk); (try clear hi)) | (go_at_call 12; (with_reducible refine (cringleref08_Crc.calls k1 _ _ x3_1 t217 _ ?side1 ?side2 A37.out).mono ?_); (case side1 => repeat (first | exact (Kd.R_reads' HO_3.out).2.2 | (with_reducible refine Kd.C_alloc ?_ _) | (with_reducible refine Kd.C_drewN ?_ _) | (with_reducible refine Kd.C_drew ?_))); (case side2 => exact (Kd.R_reads' HO_3.out).2.1); rintro e w' ⟨rfl, ⟨nd, rfl⟩⟩; have hcz50_0 : w49.cell? ⟨gb197, 0, none⟩ = some (.int .u32 x198000_1) := (blk_cell BK197.out 0).trans rfl; have hcz50_1 : w49.cell? ⟨gb197, 1, none⟩ = some (.int .u64 x198001_1) := (blk_cell BK197.out 1).trans rfl; have hfz50_0 := blk_frozen BK197.out 0; have hfz50_1 := blk_frozen BK197.out 1) | (go_at_call 13; (with_reducible refine (sum_Sum_Mark.calls x198000_1 x198001_1 t218 _ A39.out).mono ?_); rintro e w51 ⟨rfl, hb⟩; have n0_ := Aside0.mk (Kd.R_below (by (with_reducible repeat (first | apply Kd.R_alloc | apply Kd.R_drewN | apply Kd.R_drew)); exact HO_3.out) hb); have n1_ := Aside0.mk (Kd.R_below (by (with_reducible repeat (first | apply Kd.R_alloc | apply Kd.R_drewN | apply Kd.R_drew)); exact HO_4.out) hb); have n2_ := Aside0.mk (blk_below (g := gb197) (o := .cells #[.int .u32 x198000_1, .int .u64 x198001_1] 28 (0, 0)) (by (with_reducible repeat (first | refine blk_drewN ?_ _ | refine blk_drew ?_ | refine blk_alloc ?_ _)); exact BK197.out) hb); have n3_ := Aside0.mk (below_step (by repeat (first | (with_reducible first | exact HB.out | apply below_alloc | apply pw_below_drewN | apply below_drew1 | refine below_set ?_ GE197.out) | exact HB.out)) hb); clear HO_3; clear HO_4; clear BK197; clear HB; have HO_3 := n0_; have HO_4 := n1_; have BK197 := n2_; have HB := n3_; clear n0_ n1_ n2_ n3_; (try clear hb); (try clear hb2); (try clear hk); (try clear hi)) | (go_at_call 14; (with_reducible refine (cringleref08_Mark.calls k1 _ _ x3_1 t219 _ ?side1 ?side2 A40.out).mono ?_); (case side1 => repeat (first | exact (Kd.R_reads' HO_3.out).2.2 | (with_reducible refine Kd.C_alloc ?_ _) | (with_reducible refine Kd.C_drewN ?_ _) | (with_reducible refine Kd.C_drew ?_))); (case side2 => exact (Kd.R_reads' HO_3.out).2.1); rintro e w' ⟨rfl, ⟨nd, rfl⟩⟩; obtain ⟨Ao52, co52, eo52⟩ := Kd.R_slice HO_4.out; subst eo52) | (go_at_call 19; (with_reducible refine (sum_Mark.calls k1 _ _ x4_1 t220 _ ?side1 ?side2 A42.out).mono ?_); (case side1 => repeat (first | exact (Kd.R_reads' HO_4.out).2.2 | (with_reducible refine Kd.C_alloc ?_ _) | (with_reducible refine Kd.C_drewN ?_ _) | (with_reducible refine Kd.C_drew ?_))); (case side2 => exact (Kd.R_reads' HO_4.out).2.1); rintro e w53 ⟨rfl, hb⟩; have n0_ := Aside0.mk (Kd.R_below (by (with_reducible repeat (first | apply Kd.R_alloc | apply Kd.R_drewN | apply Kd.R_drew)); exact HO_3.out) hb); have n1_ := Aside0.mk (Kd.R_below (by (with_reducible repeat (first | apply Kd.R_alloc | apply Kd.R_drewN | apply Kd.R_drew)); exact HO_4.out) hb); have n2_ := Aside0.mk (blk_below (g := gb197) (o := .cells #[.int .u32 x198000_1, .int .u64 x198001_1] 28 (0, 0)) (by (with_reducible repeat (first | refine blk_drewN ?_ _ | refine blk_drew ?_ | refine blk_alloc ?_ _)); exact BK197.out) hb); have n3_ := Aside0.mk (below_step (by repeat (first | (with_reducible first | exact HB.out | apply below_alloc | apply pw_below_drewN | apply below_drew1 | refine below_set ?_ GE197.out) | exact HB.out)) hb); clear HO_3; clear HO_4; clear BK197; clear HB; have HO_3 := n0_; have HO_4 := n1_; have BK197 := n2_; have HB := n3_; clear n0_ n1_ n2_ n3_; (try clear hb); (try clear hb2); (try clear hk); (try clear hi)) | (go_at_call 20; (with_reducible refine (cringleref08_Marks.calls k1 _ _ x4_1 t221 _ ?side1 ?side2 A43.out).mono ?_); (case side1 => repeat (first | exact (Kd.R_reads' HO_4.out).2.2 | (with_reducible refine Kd.C_alloc ?_ _) | (with_reducible refine Kd.C_drewN ?_ _) | (with_reducible refine Kd.C_drew ?_))); (case side2 => exact (Kd.R_reads' HO_4.out).2.1); rintro e w54 ⟨rfl, hb⟩; have n0_ := Aside0.mk (Kd.R_below (by (with_reducible repeat (first | apply Kd.R_alloc | apply Kd.R_drewN | apply Kd.R_drew)); exact HO_3.out) hb); have n1_ := Aside0.mk (Kd.R_below (by (with_reducible repeat (first | apply Kd.R_alloc | apply Kd.R_drewN | apply Kd.R_drew)); exact HO_4.out) hb); have n2_ := Aside0.mk (blk_below (g := gb197) (o := .cells #[.int .u32 x198000_1, .int .u64 x198001_1] 28 (0, 0)) (by (with_reducible repeat (first | refine blk_drewN ?_ _ | refine blk_drew ?_ | refine blk_alloc ?_ _)); exact BK197.out) hb); have n3_ := Aside0.mk (below_step (by repeat (first | (with_reducible first | exact HB.out | apply below_alloc | apply pw_below_drewN | apply below_drew1 | refine below_set ?_ GE197.out) | exact HB.out)) hb); clear HO_3; clear HO_4; clear BK197; clear HB; have HO_3 := n0_; have HO_4 := n1_; have BK197 := n2_; have HB := n3_; clear n0_ n1_ n2_ n3_; (try clear hb); (try clear hb2); (try clear hk); (try clear hi)) | (go_at_call 8; (with_reducible refine (cringlelaw08_alive.calls  t222 _ A45.out).mono ?_); rintro e w55 ⟨rfl, hb⟩; have n0_ := Aside0.mk (Kd.R_below (by (with_reducible repeat (first | apply Kd.R_alloc | apply Kd.R_drewN | apply Kd.R_drew)); exact HO_3.out) hb); have n1_ := Aside0.mk (Kd.R_below (by (with_reducible repeat (first | apply Kd.R_alloc | apply Kd.R_drewN | apply Kd.R_drew)); exact HO_4.out) hb); have n2_ := Aside0.mk (blk_below (g := gb197) (o := .cells #[.int .u32 x198000_1, .int .u64 x198001_1] 28 (0, 0)) (by (with_reducible repeat (first | refine blk_drewN ?_ _ | refine blk_drew ?_ | refine blk_alloc ?_ _)); exact BK197.out) hb); have n3_ := Aside0.mk (below_step (by repeat (first | (with_reducible first | exact HB.out | apply below_alloc | apply pw_below_drewN | apply below_drew1 | refine below_set ?_ GE197.out) | exact HB.out)) hb); clear HO_3; clear HO_4; clear BK197; clear HB; have HO_3 := n0_; have HO_4 := n1_; have BK197 := n2_; have HB := n3_; clear n0_ n1_ n2_ n3_; (try clear hb); (try clear hb2); (try clear hk); (try clear hi)))
                      go_ret
                      exact ⟨by first | rfl | (simp [errW_none, errW_some] <;> rfl) | (simp only [← hji3]; first | rfl | (simp [errW_none, errW_some] <;> rfl)) | (simp [*, errW_none, errW_some] <;> rfl), by repeat (first | (with_reducible first | exact HB.out | apply below_alloc | apply pw_below_drewN | apply below_drew1 | refine below_set ?_ GE197.out) | exact HB.out)⟩
                    · rw [if_neg c44] at H
                      have c44b0 : (t220.toList == t221.toList) = false := beq_eq_false_iff_ne.mpr c44
                      have c44b1 : (t220.toList != t221.toList) = true := bne_iff_ne.mpr c44
                      exact absurd (Option.some.inj H) (by rw [htrue.out]; decide)
                  · rw [if_neg c41] at H
                    have c41b0 : (t218 == t219) = false := beq_eq_false_iff_ne.mpr c41
                    have c41b1 : (t218 != t219) = true := bne_iff_ne.mpr c41
                    exact absurd (Option.some.inj H) (by rw [htrue.out]; decide)
                · rw [if_neg c38] at H
                  have c38b0 : (t216 == t217) = false := beq_eq_false_iff_ne.mpr c38
                  have c38b1 : (t216 != t217) = true := bne_iff_ne.mpr c38
                  exact absurd (Option.some.inj H) (by rw [htrue.out]; decide)
              · rw [if_neg c35] at H
                have c35b0 : (t214 == t215) = false := beq_eq_false_iff_ne.mpr c35
                have c35b1 : (t214 != t215) = true := bne_iff_ne.mpr c35
                exact absurd (Option.some.inj H) (by rw [htrue.out]; decide)
    · rw [if_neg c5] at H
      exact absurd H (by simp)
  · rw [if_neg c4] at H
    exact absurd H (by simp)

end Go.Proofs.Ytibjkbanlolgiaa.Q
