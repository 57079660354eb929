-- printed by a program of the session's own; Lean checks it
import Derived.Test.YtfoikdjffemhbaaDoorQ0
namespace Go.Proofs.YtfoikdjffemhbaaDoor.Q
open Go.RowKit Go.Proofs.YtfoikdjffemhbaaDoorW.PrintWords Go.Proofs.YtfoikdjffemhbaaDoorW.PrintLast Go.Proofs.YtfoikdjffemhbaaDoorW.PrintMore
attribute [local go_sem] max2_int min2_int max_two min_two max_three min_three max_four min_four   -- for this text's walks alone
set_option linter.unusedVariables false
set_option linter.unusedSimpArgs false

/-! ### date_IsLeap: function 10 -/
def date_IsLeap.f (a0 : Int) : Option (Bool) := if (Int.tmod a0 4) = 0 then (if (Int.tmod a0 100) = 0 then (some ((Int.tmod a0 400) == 0)) else (some true)) else (some false)
set_option maxHeartbeats 8000000 in
set_option maxRecDepth 100000 in
theorem date_IsLeap.calls (a0 : Int) (r : Bool) (w : World) (h : date_IsLeap.f a0 = some r) :
    Calls Tryd.prog 10 #[.int .i64 a0] w fun e w' => e = .returned (.bool r) ∧ Drawn0 w w' := by
  have H : (if (Int.tmod a0 4) = 0 then (if (Int.tmod a0 100) = 0 then (some ((Int.tmod a0 400) == 0)) else (some true)) else (some false)) = some r := h
  clear h
  by_cases c2 : (Int.tmod a0 4) = 0
  · rw [if_pos c2] at H
    have c2b0 : ((Int.tmod a0 4) == 0) = true := beq_iff_eq.mpr c2
    have c2b1 : ((Int.tmod a0 4) != 0) = false := bne_eq_false_iff_eq.mpr c2
    clear c2
    by_cases c3 : (Int.tmod a0 100) = 0
    · rw [if_pos c3] at H
      have c3b0 : ((Int.tmod a0 100) == 0) = true := beq_iff_eq.mpr c3
      have c3b1 : ((Int.tmod a0 100) != 0) = false := bne_eq_false_iff_eq.mpr c3
      clear c3
      obtain rfl := Option.some.inj H
      go_enter Tryd.func10, Tryd.ntmps10
      go_wp2
      go_ret
      exact ⟨by first | rfl | (simp; done) | (simp [*]; done) | (simp; unfold wrap64; omega), by repeat (first | exact Drawn0.refl _ | apply Drawn0.step)⟩
    · rw [if_neg c3] at H
      have c3b0 : ((Int.tmod a0 100) == 0) = false := beq_eq_false_iff_ne.mpr c3
      have c3b1 : ((Int.tmod a0 100) != 0) = true := bne_iff_ne.mpr c3
      obtain rfl := Option.some.inj H
      go_enter Tryd.func10, Tryd.ntmps10
      go_wp2
      go_ret
      exact ⟨by first | rfl | (simp; done) | (simp [*]; done) | (simp; unfold wrap64; omega), by repeat (first | exact Drawn0.refl _ | apply Drawn0.step)⟩
  · rw [if_neg c2] at H
    have c2b0 : ((Int.tmod a0 4) == 0) = false := beq_eq_false_iff_ne.mpr c2
    have c2b1 : ((Int.tmod a0 4) != 0) = true := bne_iff_ne.mpr c2
    obtain rfl := Option.some.inj H
    go_enter Tryd.func10, Tryd.ntmps10
    go_wp2
    go_ret
    exact ⟨by first | rfl | (simp; done) | (simp [*]; done) | (simp; unfold wrap64; omega), by repeat (first | exact Drawn0.refl _ | apply Drawn0.step)⟩

/-! ### date_begin: function 20 -/
def date_begin.f (a0 : Int) : Option (Int) := some (wrap64 ((wrap64 ((wrap64 ((wrap64 ((wrap64 (365 * (wrap64 (a0 - 1)))) + (wrap64 (Int.tdiv (wrap64 (a0 - 1)) 4)))) - (wrap64 (Int.tdiv (wrap64 (a0 - 1)) 100)))) + (wrap64 (Int.tdiv (wrap64 (a0 - 1)) 400)))) - 719162))
set_option maxHeartbeats 8000000 in
set_option maxRecDepth 100000 in
theorem date_begin.calls (a0 : Int) (r : Int) (w : World) (h : date_begin.f a0 = some r) :
    Calls Tryd.prog 20 #[.int .i64 a0] w fun e w' => e = .returned (.int .i64 r) ∧ Drawn0 w w' := by
  have H : (some (wrap64 ((wrap64 ((wrap64 ((wrap64 ((wrap64 (365 * (wrap64 (a0 - 1)))) + (wrap64 (Int.tdiv (wrap64 (a0 - 1)) 4)))) - (wrap64 (Int.tdiv (wrap64 (a0 - 1)) 100)))) + (wrap64 (Int.tdiv (wrap64 (a0 - 1)) 400)))) - 719162))) = some r := h
  clear h
  obtain rfl := Option.some.inj H
  go_enter Tryd.func20, Tryd.ntmps20
  go_wp2
  go_ret
  exact ⟨by first | rfl | (simp; done) | (simp [*]; done) | (simp; unfold wrap64; omega), by repeat (first | exact Drawn0.refl _ | apply Drawn0.step)⟩

/-! ### date.ahead, date.Days -/
def date_ahead.l (a0 : Int) : Option (List Int) := (date_IsLeap.f a0).bind fun b => some (if b = true then [0, 31, 60, 91, 121, 152, 182, 213, 244, 274, 305, 335, 366] else [0, 31, 59, 90, 120, 151, 181, 212, 243, 273, 304, 334, 365])
/-- The cells of a year of which i months are turned. -/
def date_ahead.part (i : Nat) : Array Value := #[.int .i64 0, .int .i64 31, .int .i64 (if 0 < i then 60 else 59), .int .i64 (if 1 < i then 91 else 90), .int .i64 (if 2 < i then 121 else 120), .int .i64 (if 3 < i then 152 else 151), .int .i64 (if 4 < i then 182 else 181), .int .i64 (if 5 < i then 213 else 212), .int .i64 (if 6 < i then 244 else 243), .int .i64 (if 7 < i then 274 else 273), .int .i64 (if 8 < i then 305 else 304), .int .i64 (if 9 < i then 335 else 334), .int .i64 (if 10 < i then 366 else 365)]
theorem date_ahead.step (i : Nat) (h : i < 11) : ∃ v : Int, (date_ahead.part i)[2 + i]? = some (.int .i64 v) ∧ (date_ahead.part i).setIfInBounds (2 + i) (.int .i64 (v + 1)) = date_ahead.part (i + 1) ∧ wrap64 (v + 1) = v + 1 ∧ (date_ahead.part i).size = 13 := by
  rcases (by omega : i = 0 ∨ i = 1 ∨ i = 2 ∨ i = 3 ∨ i = 4 ∨ i = 5 ∨ i = 6 ∨ i = 7 ∨ i = 8 ∨ i = 9 ∨ i = 10) with rfl | rfl | rfl | rfl | rfl | rfl | rfl | rfl | rfl | rfl | rfl <;> exact ⟨_, rfl, rfl, by unfold wrap64; omega, rfl⟩
set_option maxHeartbeats 4000000 in
set_option maxRecDepth 100000 in
theorem date_ahead.calls (a0 : Int) (r : List Int) (w : World) (h : date_ahead.l a0 = some r) :
    Calls Tryd.prog 19 #[.int .i64 a0] w fun e w' => e = .returned (.agg (r.map (Value.int .i64)).toArray) ∧ Below w.heap.size w w' := by
  unfold date_ahead.l at h
  obtain ⟨b, hb, hr⟩ := Option.bind_eq_some_iff.mp h
  have HS := Aside0.mk hb
  clear hb h
  obtain rfl := Option.some.inj hr
  clear hr
  go_enter Tryd.func19, Tryd.ntmps19
  go_wp2_with fail
  refine (date_IsLeap.calls a0 b _ HS.out).mono ?_
  rintro e w1 ⟨rfl, hw⟩
  have hsz : ∀ o : Obj, (w.alloc o).heap.size = w.heap.size + 1 := fun o => Array.size_push _
  have hsz2 : ∀ o p : Obj, ((w.alloc o).alloc p).heap.size = w.heap.size + 2 := fun o p => (Array.size_push _).trans (congrArg (· + 1) (hsz o))
  have HR : Blk.At w.heap.size (Array.replicate 13 (.int .i64 0)) 50 w1 := Blk.At.below (Blk.At.alloc (Blk.At.new w (Array.replicate 13 (.int .i64 0)) 50) _) hw.below (by rw [hsz2]; omega)
  have HA : Blk.At (w.heap.size + 1) (date_ahead.part 0) 50 w1 := Blk.At.below (by have h := Blk.At.new (w.alloc (.cells (Array.replicate 13 (.int .i64 0)) 50)) (date_ahead.part 0) 50; rw [hsz] at h; exact h) hw.below (by rw [hsz2]; omega)
  have HB := Aside0.mk (below_step (below_alloc (below_alloc (Below.refl _ w) _) _) hw.below)
  clear hw hsz hsz2
  cases b
  · clear HS
    have c0 : w1.cell? ⟨w.heap.size + 1, 0, none⟩ = some (.int .i64 0) := HA.cell 0
    have c1 : w1.cell? ⟨w.heap.size + 1, 1, none⟩ = some (.int .i64 31) := HA.cell 1
    have c2 : w1.cell? ⟨w.heap.size + 1, 2, none⟩ = some (.int .i64 59) := HA.cell 2
    have c3 : w1.cell? ⟨w.heap.size + 1, 3, none⟩ = some (.int .i64 90) := HA.cell 3
    have c4 : w1.cell? ⟨w.heap.size + 1, 4, none⟩ = some (.int .i64 120) := HA.cell 4
    have c5 : w1.cell? ⟨w.heap.size + 1, 5, none⟩ = some (.int .i64 151) := HA.cell 5
    have c6 : w1.cell? ⟨w.heap.size + 1, 6, none⟩ = some (.int .i64 181) := HA.cell 6
    have c7 : w1.cell? ⟨w.heap.size + 1, 7, none⟩ = some (.int .i64 212) := HA.cell 7
    have c8 : w1.cell? ⟨w.heap.size + 1, 8, none⟩ = some (.int .i64 243) := HA.cell 8
    have c9 : w1.cell? ⟨w.heap.size + 1, 9, none⟩ = some (.int .i64 273) := HA.cell 9
    have c10 : w1.cell? ⟨w.heap.size + 1, 10, none⟩ = some (.int .i64 304) := HA.cell 10
    have c11 : w1.cell? ⟨w.heap.size + 1, 11, none⟩ = some (.int .i64 334) := HA.cell 11
    have c12 : w1.cell? ⟨w.heap.size + 1, 12, none⟩ = some (.int .i64 365) := HA.cell 12
    have r0 : w1.cell? ⟨w.heap.size, 0, none⟩ = some (.int .i64 0) := HR.cell 0
    have f0 : w1.frozen? ⟨w.heap.size, 0, none⟩ = false := HR.frozen 0
    have r1 : w1.cell? ⟨w.heap.size, 1, none⟩ = some (.int .i64 0) := HR.cell 1
    have f1 : w1.frozen? ⟨w.heap.size, 1, none⟩ = false := HR.frozen 1
    have r2 : w1.cell? ⟨w.heap.size, 2, none⟩ = some (.int .i64 0) := HR.cell 2
    have f2 : w1.frozen? ⟨w.heap.size, 2, none⟩ = false := HR.frozen 2
    have r3 : w1.cell? ⟨w.heap.size, 3, none⟩ = some (.int .i64 0) := HR.cell 3
    have f3 : w1.frozen? ⟨w.heap.size, 3, none⟩ = false := HR.frozen 3
    have r4 : w1.cell? ⟨w.heap.size, 4, none⟩ = some (.int .i64 0) := HR.cell 4
    have f4 : w1.frozen? ⟨w.heap.size, 4, none⟩ = false := HR.frozen 4
    have r5 : w1.cell? ⟨w.heap.size, 5, none⟩ = some (.int .i64 0) := HR.cell 5
    have f5 : w1.frozen? ⟨w.heap.size, 5, none⟩ = false := HR.frozen 5
    have r6 : w1.cell? ⟨w.heap.size, 6, none⟩ = some (.int .i64 0) := HR.cell 6
    have f6 : w1.frozen? ⟨w.heap.size, 6, none⟩ = false := HR.frozen 6
    have r7 : w1.cell? ⟨w.heap.size, 7, none⟩ = some (.int .i64 0) := HR.cell 7
    have f7 : w1.frozen? ⟨w.heap.size, 7, none⟩ = false := HR.frozen 7
    have r8 : w1.cell? ⟨w.heap.size, 8, none⟩ = some (.int .i64 0) := HR.cell 8
    have f8 : w1.frozen? ⟨w.heap.size, 8, none⟩ = false := HR.frozen 8
    have r9 : w1.cell? ⟨w.heap.size, 9, none⟩ = some (.int .i64 0) := HR.cell 9
    have f9 : w1.frozen? ⟨w.heap.size, 9, none⟩ = false := HR.frozen 9
    have r10 : w1.cell? ⟨w.heap.size, 10, none⟩ = some (.int .i64 0) := HR.cell 10
    have f10 : w1.frozen? ⟨w.heap.size, 10, none⟩ = false := HR.frozen 10
    have r11 : w1.cell? ⟨w.heap.size, 11, none⟩ = some (.int .i64 0) := HR.cell 11
    have f11 : w1.frozen? ⟨w.heap.size, 11, none⟩ = false := HR.frozen 11
    have r12 : w1.cell? ⟨w.heap.size, 12, none⟩ = some (.int .i64 0) := HR.cell 12
    have f12 : w1.frozen? ⟨w.heap.size, 12, none⟩ = false := HR.frozen 12
    have HA' := Aside0.mk HA
    have HR' := Aside0.mk HR
    clear HA HR
    go_wp2_with fail
    have HF : Blk.At w.heap.size #[.int .i64 0, .int .i64 31, .int .i64 59, .int .i64 90, .int .i64 120, .int .i64 151, .int .i64 181, .int .i64 212, .int .i64 243, .int .i64 273, .int .i64 304, .int .i64 334, .int .i64 365] 50 (Blk.fill w.heap.size 0 [.int .i64 0, .int .i64 31, .int .i64 59, .int .i64 90, .int .i64 120, .int .i64 151, .int .i64 181, .int .i64 212, .int .i64 243, .int .i64 273, .int .i64 304, .int .i64 334, .int .i64 365] _) := HR'.out.filled _ rfl
    have HBF := Blk.below_fill (Nat.le_refl _) [.int .i64 0, .int .i64 31, .int .i64 59, .int .i64 90, .int .i64 120, .int .i64 151, .int .i64 181, .int .i64 212, .int .i64 243, .int .i64 273, .int .i64 304, .int .i64 334, .int .i64 365] 0 _ HB.out
    (try simp only [Exit.inBlock, Exit.then])
    refine bodyPost_ret (results_cell_row rfl _ _ w.heap.size 50 #[.int .i64 0, .int .i64 31, .int .i64 59, .int .i64 90, .int .i64 120, .int .i64 151, .int .i64 181, .int .i64 212, .int .i64 243, .int .i64 273, .int .i64 304, .int .i64 334, .int .i64 365] (0, 0) _ rfl HF Tryd.underlying50 rfl (by kernel_rfl)) rfl ?_
    exact ⟨rfl, HBF⟩
  · clear HS
    go_wp2_with fail
    go_loopw [10] (fun j wr => ∃ i : Nat, i ≤ 11 ∧ j = .int .i64 i ∧ Aside0 (Blk.At (w.heap.size + 1) (date_ahead.part i) 50 wr) ∧ Aside0 (Blk.At w.heap.size (Array.replicate 13 (.int .i64 0)) 50 wr) ∧ Aside0 (Below w.heap.size w wr)) (fun j _ => 11 - (intOf j).toNat)
    case atStart => exact ⟨0, Nat.zero_le _, rfl, ⟨HA⟩, ⟨HR⟩, HB⟩
    case round =>
      clear HB HA HR
      obtain ⟨i, hi, rfl, HA0, HR0, HB⟩ := hrel
      have HA := HA0.out
      have HR := HR0.out
      clear HA0 HR0
      rcases (by omega : i = 11 ∨ i < 11) with rfl | hlt
      · clear hi
        have c0 : wr.cell? ⟨w.heap.size + 1, 0, none⟩ = some (.int .i64 0) := HA.cell 0
        have c1 : wr.cell? ⟨w.heap.size + 1, 1, none⟩ = some (.int .i64 31) := HA.cell 1
        have c2 : wr.cell? ⟨w.heap.size + 1, 2, none⟩ = some (.int .i64 60) := HA.cell 2
        have c3 : wr.cell? ⟨w.heap.size + 1, 3, none⟩ = some (.int .i64 91) := HA.cell 3
        have c4 : wr.cell? ⟨w.heap.size + 1, 4, none⟩ = some (.int .i64 121) := HA.cell 4
        have c5 : wr.cell? ⟨w.heap.size + 1, 5, none⟩ = some (.int .i64 152) := HA.cell 5
        have c6 : wr.cell? ⟨w.heap.size + 1, 6, none⟩ = some (.int .i64 182) := HA.cell 6
        have c7 : wr.cell? ⟨w.heap.size + 1, 7, none⟩ = some (.int .i64 213) := HA.cell 7
        have c8 : wr.cell? ⟨w.heap.size + 1, 8, none⟩ = some (.int .i64 244) := HA.cell 8
        have c9 : wr.cell? ⟨w.heap.size + 1, 9, none⟩ = some (.int .i64 274) := HA.cell 9
        have c10 : wr.cell? ⟨w.heap.size + 1, 10, none⟩ = some (.int .i64 305) := HA.cell 10
        have c11 : wr.cell? ⟨w.heap.size + 1, 11, none⟩ = some (.int .i64 335) := HA.cell 11
        have c12 : wr.cell? ⟨w.heap.size + 1, 12, none⟩ = some (.int .i64 366) := HA.cell 12
        have r0 : wr.cell? ⟨w.heap.size, 0, none⟩ = some (.int .i64 0) := HR.cell 0
        have f0 : wr.frozen? ⟨w.heap.size, 0, none⟩ = false := HR.frozen 0
        have r1 : wr.cell? ⟨w.heap.size, 1, none⟩ = some (.int .i64 0) := HR.cell 1
        have f1 : wr.frozen? ⟨w.heap.size, 1, none⟩ = false := HR.frozen 1
        have r2 : wr.cell? ⟨w.heap.size, 2, none⟩ = some (.int .i64 0) := HR.cell 2
        have f2 : wr.frozen? ⟨w.heap.size, 2, none⟩ = false := HR.frozen 2
        have r3 : wr.cell? ⟨w.heap.size, 3, none⟩ = some (.int .i64 0) := HR.cell 3
        have f3 : wr.frozen? ⟨w.heap.size, 3, none⟩ = false := HR.frozen 3
        have r4 : wr.cell? ⟨w.heap.size, 4, none⟩ = some (.int .i64 0) := HR.cell 4
        have f4 : wr.frozen? ⟨w.heap.size, 4, none⟩ = false := HR.frozen 4
        have r5 : wr.cell? ⟨w.heap.size, 5, none⟩ = some (.int .i64 0) := HR.cell 5
        have f5 : wr.frozen? ⟨w.heap.size, 5, none⟩ = false := HR.frozen 5
        have r6 : wr.cell? ⟨w.heap.size, 6, none⟩ = some (.int .i64 0) := HR.cell 6
        have f6 : wr.frozen? ⟨w.heap.size, 6, none⟩ = false := HR.frozen 6
        have r7 : wr.cell? ⟨w.heap.size, 7, none⟩ = some (.int .i64 0) := HR.cell 7
        have f7 : wr.frozen? ⟨w.heap.size, 7, none⟩ = false := HR.frozen 7
        have r8 : wr.cell? ⟨w.heap.size, 8, none⟩ = some (.int .i64 0) := HR.cell 8
        have f8 : wr.frozen? ⟨w.heap.size, 8, none⟩ = false := HR.frozen 8
        have r9 : wr.cell? ⟨w.heap.size, 9, none⟩ = some (.int .i64 0) := HR.cell 9
        have f9 : wr.frozen? ⟨w.heap.size, 9, none⟩ = false := HR.frozen 9
        have r10 : wr.cell? ⟨w.heap.size, 10, none⟩ = some (.int .i64 0) := HR.cell 10
        have f10 : wr.frozen? ⟨w.heap.size, 10, none⟩ = false := HR.frozen 10
        have r11 : wr.cell? ⟨w.heap.size, 11, none⟩ = some (.int .i64 0) := HR.cell 11
        have f11 : wr.frozen? ⟨w.heap.size, 11, none⟩ = false := HR.frozen 11
        have r12 : wr.cell? ⟨w.heap.size, 12, none⟩ = some (.int .i64 0) := HR.cell 12
        have f12 : wr.frozen? ⟨w.heap.size, 12, none⟩ = false := HR.frozen 12
        have HA' := Aside0.mk HA
        have HR' := Aside0.mk HR
        clear HA HR
        go_wp2_with fail
        have HF : Blk.At w.heap.size #[.int .i64 0, .int .i64 31, .int .i64 60, .int .i64 91, .int .i64 121, .int .i64 152, .int .i64 182, .int .i64 213, .int .i64 244, .int .i64 274, .int .i64 305, .int .i64 335, .int .i64 366] 50 (Blk.fill w.heap.size 0 [.int .i64 0, .int .i64 31, .int .i64 60, .int .i64 91, .int .i64 121, .int .i64 152, .int .i64 182, .int .i64 213, .int .i64 244, .int .i64 274, .int .i64 305, .int .i64 335, .int .i64 366] _) := HR'.out.filled _ rfl
        have HBF := Blk.below_fill (Nat.le_refl _) [.int .i64 0, .int .i64 31, .int .i64 60, .int .i64 91, .int .i64 121, .int .i64 152, .int .i64 182, .int .i64 213, .int .i64 244, .int .i64 274, .int .i64 305, .int .i64 335, .int .i64 366] 0 _ HB.out
        (try simp only [Exit.inBlock, Exit.then])
        refine bodyPost_ret (results_cell_row rfl _ _ w.heap.size 50 #[.int .i64 0, .int .i64 31, .int .i64 60, .int .i64 91, .int .i64 121, .int .i64 152, .int .i64 182, .int .i64 213, .int .i64 244, .int .i64 274, .int .i64 305, .int .i64 335, .int .i64 366] (0, 0) _ rfl HF Tryd.underlying50 rfl (by kernel_rfl)) rfl ?_
        exact ⟨rfl, HBF⟩
      · rcases (by omega : i = 0 ∨ i = 1 ∨ i = 2 ∨ i = 3 ∨ i = 4 ∨ i = 5 ∨ i = 6 ∨ i = 7 ∨ i = 8 ∨ i = 9 ∨ i = 10) with rfl | rfl | rfl | rfl | rfl | rfl | rfl | rfl | rfl | rfl | rfl
        · clear hi hlt
          have cv : wr.cell? ⟨w.heap.size + 1, 2, none⟩ = some (.int .i64 59) := HA.cell 2
          have fv : wr.frozen? ⟨w.heap.size + 1, 2, none⟩ = false := HA.frozen 2
          have HA2 := Aside0.mk (show Blk.At (w.heap.size + 1) (date_ahead.part 1) 50 (wr.setCell ⟨w.heap.size + 1, 2, none⟩ (.int .i64 60)) from HA.set 2 (.int .i64 60))
          have HR2 := Aside0.mk (show Blk.At w.heap.size (Array.replicate 13 (.int .i64 0)) 50 (wr.setCell ⟨w.heap.size + 1, 2, none⟩ (.int .i64 60)) from HR.set_other (by omega) 2 (.int .i64 60))
          have HB2 := Aside0.mk (show Below w.heap.size w (wr.setCell ⟨w.heap.size + 1, 2, none⟩ (.int .i64 60)) from below_set HB.out (by omega))
          clear HA HR HB
          go_wp2_with fail
          go_round
          case rel => exact ⟨1, by omega, rfl, HA2, HR2, HB2⟩
          case measure => simp [intOf]
        · clear hi hlt
          have cv : wr.cell? ⟨w.heap.size + 1, 3, none⟩ = some (.int .i64 90) := HA.cell 3
          have fv : wr.frozen? ⟨w.heap.size + 1, 3, none⟩ = false := HA.frozen 3
          have HA2 := Aside0.mk (show Blk.At (w.heap.size + 1) (date_ahead.part 2) 50 (wr.setCell ⟨w.heap.size + 1, 3, none⟩ (.int .i64 91)) from HA.set 3 (.int .i64 91))
          have HR2 := Aside0.mk (show Blk.At w.heap.size (Array.replicate 13 (.int .i64 0)) 50 (wr.setCell ⟨w.heap.size + 1, 3, none⟩ (.int .i64 91)) from HR.set_other (by omega) 3 (.int .i64 91))
          have HB2 := Aside0.mk (show Below w.heap.size w (wr.setCell ⟨w.heap.size + 1, 3, none⟩ (.int .i64 91)) from below_set HB.out (by omega))
          clear HA HR HB
          go_wp2_with fail
          go_round
          case rel => exact ⟨2, by omega, rfl, HA2, HR2, HB2⟩
          case measure => simp [intOf]
        · clear hi hlt
          have cv : wr.cell? ⟨w.heap.size + 1, 4, none⟩ = some (.int .i64 120) := HA.cell 4
          have fv : wr.frozen? ⟨w.heap.size + 1, 4, none⟩ = false := HA.frozen 4
          have HA2 := Aside0.mk (show Blk.At (w.heap.size + 1) (date_ahead.part 3) 50 (wr.setCell ⟨w.heap.size + 1, 4, none⟩ (.int .i64 121)) from HA.set 4 (.int .i64 121))
          have HR2 := Aside0.mk (show Blk.At w.heap.size (Array.replicate 13 (.int .i64 0)) 50 (wr.setCell ⟨w.heap.size + 1, 4, none⟩ (.int .i64 121)) from HR.set_other (by omega) 4 (.int .i64 121))
          have HB2 := Aside0.mk (show Below w.heap.size w (wr.setCell ⟨w.heap.size + 1, 4, none⟩ (.int .i64 121)) from below_set HB.out (by omega))
          clear HA HR HB
          go_wp2_with fail
          go_round
          case rel => exact ⟨3, by omega, rfl, HA2, HR2, HB2⟩
          case measure => simp [intOf]
        · clear hi hlt
          have cv : wr.cell? ⟨w.heap.size + 1, 5, none⟩ = some (.int .i64 151) := HA.cell 5
          have fv : wr.frozen? ⟨w.heap.size + 1, 5, none⟩ = false := HA.frozen 5
          have HA2 := Aside0.mk (show Blk.At (w.heap.size + 1) (date_ahead.part 4) 50 (wr.setCell ⟨w.heap.size + 1, 5, none⟩ (.int .i64 152)) from HA.set 5 (.int .i64 152))
          have HR2 := Aside0.mk (show Blk.At w.heap.size (Array.replicate 13 (.int .i64 0)) 50 (wr.setCell ⟨w.heap.size + 1, 5, none⟩ (.int .i64 152)) from HR.set_other (by omega) 5 (.int .i64 152))
          have HB2 := Aside0.mk (show Below w.heap.size w (wr.setCell ⟨w.heap.size + 1, 5, none⟩ (.int .i64 152)) from below_set HB.out (by omega))
          clear HA HR HB
          go_wp2_with fail
          go_round
          case rel => exact ⟨4, by omega, rfl, HA2, HR2, HB2⟩
          case measure => simp [intOf]
        · clear hi hlt
          have cv : wr.cell? ⟨w.heap.size + 1, 6, none⟩ = some (.int .i64 181) := HA.cell 6
          have fv : wr.frozen? ⟨w.heap.size + 1, 6, none⟩ = false := HA.frozen 6
          have HA2 := Aside0.mk (show Blk.At (w.heap.size + 1) (date_ahead.part 5) 50 (wr.setCell ⟨w.heap.size + 1, 6, none⟩ (.int .i64 182)) from HA.set 6 (.int .i64 182))
          have HR2 := Aside0.mk (show Blk.At w.heap.size (Array.replicate 13 (.int .i64 0)) 50 (wr.setCell ⟨w.heap.size + 1, 6, none⟩ (.int .i64 182)) from HR.set_other (by omega) 6 (.int .i64 182))
          have HB2 := Aside0.mk (show Below w.heap.size w (wr.setCell ⟨w.heap.size + 1, 6, none⟩ (.int .i64 182)) from below_set HB.out (by omega))
          clear HA HR HB
          go_wp2_with fail
          go_round
          case rel => exact ⟨5, by omega, rfl, HA2, HR2, HB2⟩
          case measure => simp [intOf]
        · clear hi hlt
          have cv : wr.cell? ⟨w.heap.size + 1, 7, none⟩ = some (.int .i64 212) := HA.cell 7
          have fv : wr.frozen? ⟨w.heap.size + 1, 7, none⟩ = false := HA.frozen 7
          have HA2 := Aside0.mk (show Blk.At (w.heap.size + 1) (date_ahead.part 6) 50 (wr.setCell ⟨w.heap.size + 1, 7, none⟩ (.int .i64 213)) from HA.set 7 (.int .i64 213))
          have HR2 := Aside0.mk (show Blk.At w.heap.size (Array.replicate 13 (.int .i64 0)) 50 (wr.setCell ⟨w.heap.size + 1, 7, none⟩ (.int .i64 213)) from HR.set_other (by omega) 7 (.int .i64 213))
          have HB2 := Aside0.mk (show Below w.heap.size w (wr.setCell ⟨w.heap.size + 1, 7, none⟩ (.int .i64 213)) from below_set HB.out (by omega))
          clear HA HR HB
          go_wp2_with fail
          go_round
          case rel => exact ⟨6, by omega, rfl, HA2, HR2, HB2⟩
          case measure => simp [intOf]
        · clear hi hlt
          have cv : wr.cell? ⟨w.heap.size + 1, 8, none⟩ = some (.int .i64 243) := HA.cell 8
          have fv : wr.frozen? ⟨w.heap.size + 1, 8, none⟩ = false := HA.frozen 8
          have HA2 := Aside0.mk (show Blk.At (w.heap.size + 1) (date_ahead.part 7) 50 (wr.setCell ⟨w.heap.size + 1, 8, none⟩ (.int .i64 244)) from HA.set 8 (.int .i64 244))
          have HR2 := Aside0.mk (show Blk.At w.heap.size (Array.replicate 13 (.int .i64 0)) 50 (wr.setCell ⟨w.heap.size + 1, 8, none⟩ (.int .i64 244)) from HR.set_other (by omega) 8 (.int .i64 244))
          have HB2 := Aside0.mk (show Below w.heap.size w (wr.setCell ⟨w.heap.size + 1, 8, none⟩ (.int .i64 244)) from below_set HB.out (by omega))
          clear HA HR HB
          go_wp2_with fail
          go_round
          case rel => exact ⟨7, by omega, rfl, HA2, HR2, HB2⟩
          case measure => simp [intOf]
        · clear hi hlt
          have cv : wr.cell? ⟨w.heap.size + 1, 9, none⟩ = some (.int .i64 273) := HA.cell 9
          have fv : wr.frozen? ⟨w.heap.size + 1, 9, none⟩ = false := HA.frozen 9
          have HA2 := Aside0.mk (show Blk.At (w.heap.size + 1) (date_ahead.part 8) 50 (wr.setCell ⟨w.heap.size + 1, 9, none⟩ (.int .i64 274)) from HA.set 9 (.int .i64 274))
          have HR2 := Aside0.mk (show Blk.At w.heap.size (Array.replicate 13 (.int .i64 0)) 50 (wr.setCell ⟨w.heap.size + 1, 9, none⟩ (.int .i64 274)) from HR.set_other (by omega) 9 (.int .i64 274))
          have HB2 := Aside0.mk (show Below w.heap.size w (wr.setCell ⟨w.heap.size + 1, 9, none⟩ (.int .i64 274)) from below_set HB.out (by omega))
          clear HA HR HB
          go_wp2_with fail
          go_round
          case rel => exact ⟨8, by omega, rfl, HA2, HR2, HB2⟩
          case measure => simp [intOf]
        · clear hi hlt
          have cv : wr.cell? ⟨w.heap.size + 1, 10, none⟩ = some (.int .i64 304) := HA.cell 10
          have fv : wr.frozen? ⟨w.heap.size + 1, 10, none⟩ = false := HA.frozen 10
          have HA2 := Aside0.mk (show Blk.At (w.heap.size + 1) (date_ahead.part 9) 50 (wr.setCell ⟨w.heap.size + 1, 10, none⟩ (.int .i64 305)) from HA.set 10 (.int .i64 305))
          have HR2 := Aside0.mk (show Blk.At w.heap.size (Array.replicate 13 (.int .i64 0)) 50 (wr.setCell ⟨w.heap.size + 1, 10, none⟩ (.int .i64 305)) from HR.set_other (by omega) 10 (.int .i64 305))
          have HB2 := Aside0.mk (show Below w.heap.size w (wr.setCell ⟨w.heap.size + 1, 10, none⟩ (.int .i64 305)) from below_set HB.out (by omega))
          clear HA HR HB
          go_wp2_with fail
          go_round
          case rel => exact ⟨9, by omega, rfl, HA2, HR2, HB2⟩
          case measure => simp [intOf]
        · clear hi hlt
          have cv : wr.cell? ⟨w.heap.size + 1, 11, none⟩ = some (.int .i64 334) := HA.cell 11
          have fv : wr.frozen? ⟨w.heap.size + 1, 11, none⟩ = false := HA.frozen 11
          have HA2 := Aside0.mk (show Blk.At (w.heap.size + 1) (date_ahead.part 10) 50 (wr.setCell ⟨w.heap.size + 1, 11, none⟩ (.int .i64 335)) from HA.set 11 (.int .i64 335))
          have HR2 := Aside0.mk (show Blk.At w.heap.size (Array.replicate 13 (.int .i64 0)) 50 (wr.setCell ⟨w.heap.size + 1, 11, none⟩ (.int .i64 335)) from HR.set_other (by omega) 11 (.int .i64 335))
          have HB2 := Aside0.mk (show Below w.heap.size w (wr.setCell ⟨w.heap.size + 1, 11, none⟩ (.int .i64 335)) from below_set HB.out (by omega))
          clear HA HR HB
          go_wp2_with fail
          go_round
          case rel => exact ⟨10, by omega, rfl, HA2, HR2, HB2⟩
          case measure => simp [intOf]
        · clear hi hlt
          have cv : wr.cell? ⟨w.heap.size + 1, 12, none⟩ = some (.int .i64 365) := HA.cell 12
          have fv : wr.frozen? ⟨w.heap.size + 1, 12, none⟩ = false := HA.frozen 12
          have HA2 := Aside0.mk (show Blk.At (w.heap.size + 1) (date_ahead.part 11) 50 (wr.setCell ⟨w.heap.size + 1, 12, none⟩ (.int .i64 366)) from HA.set 12 (.int .i64 366))
          have HR2 := Aside0.mk (show Blk.At w.heap.size (Array.replicate 13 (.int .i64 0)) 50 (wr.setCell ⟨w.heap.size + 1, 12, none⟩ (.int .i64 366)) from HR.set_other (by omega) 12 (.int .i64 366))
          have HB2 := Aside0.mk (show Below w.heap.size w (wr.setCell ⟨w.heap.size + 1, 12, none⟩ (.int .i64 366)) from below_set HB.out (by omega))
          clear HA HR HB
          go_wp2_with fail
          go_round
          case rel => exact ⟨11, by omega, rfl, HA2, HR2, HB2⟩
          case measure => simp [intOf]
def date_Days.f (y m d : Int) : Option (Int × Int) := if y < 1 then some (0, 3) else if y > 9999 then some (0, 3) else if m < 1 then some (0, 3) else if m > 12 then some (0, 3) else (date_ahead.l y).bind fun l => if d < 1 then some (0, 3) else if d > wrap64 (rd l m - rd l (wrap64 (m - 1))) then some (0, 3) else (date_begin.f y).bind fun t => some (wrap64 (t + wrap64 (wrap64 (rd l (wrap64 (m - 1)) + d) - 1)), 0)
theorem date_ahead.shape {y : Int} {l : List Int} (h : date_ahead.l y = some l) : ∃ l0 l1 l2 l3 l4 l5 l6 l7 l8 l9 l10 l11 l12, l = [l0, l1, l2, l3, l4, l5, l6, l7, l8, l9, l10, l11, l12] := by
  unfold date_ahead.l at h
  obtain ⟨b, _, hr⟩ := Option.bind_eq_some_iff.mp h
  obtain rfl := Option.some.inj hr
  cases b
  · exact ⟨_, _, _, _, _, _, _, _, _, _, _, _, _, rfl⟩
  · exact ⟨_, _, _, _, _, _, _, _, _, _, _, _, _, rfl⟩
theorem date_ahead.at {g : Nat} {w : World} {l0 l1 l2 l3 l4 l5 l6 l7 l8 l9 l10 l11 l12 : Int} (h : Blk.At g #[.int .i64 l0, .int .i64 l1, .int .i64 l2, .int .i64 l3, .int .i64 l4, .int .i64 l5, .int .i64 l6, .int .i64 l7, .int .i64 l8, .int .i64 l9, .int .i64 l10, .int .i64 l11, .int .i64 l12] 50 w) (m : Int) (h0 : 0 ≤ m) (h1 : m < 13) : w.cell? ⟨g, m.toNat, none⟩ = some (.int .i64 (rd [l0, l1, l2, l3, l4, l5, l6, l7, l8, l9, l10, l11, l12] m)) := by
  rw [h.cell]
  obtain ⟨M, rfl⟩ : ∃ M : Nat, m = (M : Int) := ⟨m.toNat, by omega⟩
  rw [Int.toNat_natCast]
  have hM : M < 13 := by omega
  rcases (by omega : M = 0 ∨ M = 1 ∨ M = 2 ∨ M = 3 ∨ M = 4 ∨ M = 5 ∨ M = 6 ∨ M = 7 ∨ M = 8 ∨ M = 9 ∨ M = 10 ∨ M = 11 ∨ M = 12) with rfl | rfl | rfl | rfl | rfl | rfl | rfl | rfl | rfl | rfl | rfl | rfl | rfl <;> rfl
theorem date_ahead.below_one {g : Nat} {w : World} {l0 l1 l2 l3 l4 l5 l6 l7 l8 l9 l10 l11 l12 : Int} (h : Blk.At g #[.int .i64 l0, .int .i64 l1, .int .i64 l2, .int .i64 l3, .int .i64 l4, .int .i64 l5, .int .i64 l6, .int .i64 l7, .int .i64 l8, .int .i64 l9, .int .i64 l10, .int .i64 l11, .int .i64 l12] 50 w) (m : Int) (h0 : 1 ≤ m) (h1 : m < 14) : w.cell? ⟨g, m.toNat - 1, none⟩ = some (.int .i64 (rd [l0, l1, l2, l3, l4, l5, l6, l7, l8, l9, l10, l11, l12] (m - 1))) := by
  have h2 := date_ahead.at h (m - 1) (by omega) (by omega)
  rwa [show (m - 1).toNat = m.toNat - 1 from by omega] at h2
set_option maxHeartbeats 2000000 in
set_option maxRecDepth 100000 in
theorem date_Days.calls (y m d : Int) (r1 r2 : Int) (w : World) (h : date_Days.f y m d = some (r1, r2)) :
    Calls Tryd.prog 8 #[.int .i64 y, .int .i64 m, .int .i64 d] w fun e w' => e = .returned (.tuple #[.int .i64 r1, .int .i64 r2]) ∧ Below w.heap.size w w' := by
  unfold date_Days.f at h
  go_enter Tryd.func8, Tryd.ntmps8
  by_cases c1 : y < 1
  · rw [if_pos c1] at h
    obtain ⟨rfl, rfl⟩ := Prod.mk.inj (Option.some.inj h)
    go_wp2_with fail
    go_ret2
    exact ⟨rfl, Below.refl _ _⟩
  rw [if_neg c1] at h
  by_cases c2 : y > 9999
  · rw [if_pos c2] at h
    obtain ⟨rfl, rfl⟩ := Prod.mk.inj (Option.some.inj h)
    go_wp2_with fail
    go_ret2
    exact ⟨rfl, Below.refl _ _⟩
  rw [if_neg c2] at h
  by_cases c3 : m < 1
  · rw [if_pos c3] at h
    obtain ⟨rfl, rfl⟩ := Prod.mk.inj (Option.some.inj h)
    go_wp2_with fail
    go_ret2
    exact ⟨rfl, Below.refl _ _⟩
  rw [if_neg c3] at h
  by_cases c4 : m > 12
  · rw [if_pos c4] at h
    obtain ⟨rfl, rfl⟩ := Prod.mk.inj (Option.some.inj h)
    go_wp2_with fail
    go_ret2
    exact ⟨rfl, Below.refl _ _⟩
  rw [if_neg c4] at h
  obtain ⟨l, hl, h⟩ := Option.bind_eq_some_iff.mp h
  have HL := Aside0.mk hl
  have H := Aside0.mk h
  clear hl h
  go_wp2_with fail
  refine (date_ahead.calls y l _ HL.out).mono ?_
  rintro e w1 ⟨rfl, hw⟩
  obtain ⟨l0, l1, l2, l3, l4, l5, l6, l7, l8, l9, l10, l11, l12, rfl⟩ := date_ahead.shape HL.out
  have HA0 := Aside0.mk (Blk.At.new w1 #[.int .i64 l0, .int .i64 l1, .int .i64 l2, .int .i64 l3, .int .i64 l4, .int .i64 l5, .int .i64 l6, .int .i64 l7, .int .i64 l8, .int .i64 l9, .int .i64 l10, .int .i64 l11, .int .i64 l12] 50)
  have HB0 := Aside0.mk (below_alloc hw (.cells #[.int .i64 l0, .int .i64 l1, .int .i64 l2, .int .i64 l3, .int .i64 l4, .int .i64 l5, .int .i64 l6, .int .i64 l7, .int .i64 l8, .int .i64 l9, .int .i64 l10, .int .i64 l11, .int .i64 l12] 50))
  have hwb := Aside0.mk hw.size
  clear hw
  go_wp2_with fail
  generalize w1.alloc (.cells #[.int .i64 l0, .int .i64 l1, .int .i64 l2, .int .i64 l3, .int .i64 l4, .int .i64 l5, .int .i64 l6, .int .i64 l7, .int .i64 l8, .int .i64 l9, .int .i64 l10, .int .i64 l11, .int .i64 l12] 50) = w2 at HA0 HB0 ⊢
  generalize w1.heap.size = g at HA0 hwb ⊢
  by_cases c5 : d < 1
  · have H1 := H.out
    rw [if_pos c5] at H1
    obtain ⟨rfl, rfl⟩ := Prod.mk.inj (Option.some.inj H1)
    clear H1 H
    have c5b : decide (d < 1) = true := decide_eq_true c5
    refine start_ (n := 14) (S := fun w' => True) (ds := []) #[false, false, false, false, false, false, false, false, false, false, false, false, false, false] (by kernel_rfl) rfl rfl trivial (fun hHeld => ?_)
    refine pure_ (i := 0) (N := some 25) (v := ?_) (a' := ?_) #[true, false, false, false, false, false, false, false, false, false, false, false, false, false] rfl rfl (by kernel_rfl) (fun _ _ _ h => h) (Or.inl ⟨by rfl, ?_⟩) ?_ ?_
    rotate_left
    · intro w'
      go_simp
      with_reducible rfl
    rotate_left
    · simp only [Act.put, List.setIfInBounds_toArray, List.set_cons_zero, List.set_cons_succ, i64_w, i32_w]
      rfl
    refine pure_ (i := 1) (N := some 26) (v := ?_) (a' := ?_) #[true, true, false, false, false, false, false, false, false, false, false, false, false, false] rfl rfl (by kernel_rfl) (fun _ _ _ h => h) (Or.inl ⟨by rfl, ?_⟩) ?_ ?_
    rotate_left
    · intro w'
      go_simp
      with_reducible rfl
    rotate_left
    · simp only [Act.put, List.setIfInBounds_toArray, List.set_cons_zero, List.set_cons_succ, i64_w, i32_w]
      rfl
    refine pure_ (i := 2) (N := some 27) (v := ?_) (a' := ?_) #[true, true, true, false, false, false, false, false, false, false, false, false, false, false] rfl rfl (by kernel_rfl) (fun _ _ _ h => h) (Or.inl ⟨by rfl, ?_⟩) ?_ ?_
    rotate_left
    · intro w'
      go_simp
      with_reducible rfl
    rotate_left
    · simp only [Act.put, List.setIfInBounds_toArray, List.set_cons_zero, List.set_cons_succ, i64_w, i32_w]
      rfl
    refine pure_ (i := 3) (N := some 28) (v := undef) (a' := ?_) #[true, true, true, true, false, false, false, false, false, false, false, false, false, false] rfl rfl (by kernel_rfl) (fun _ _ _ h => h) (Or.inr ⟨by rfl, rfl⟩) ?_ ?_
    rotate_left
    · simp only [Act.put, List.setIfInBounds_toArray, List.set_cons_zero, List.set_cons_succ, i64_w, i32_w]
      rfl
    refine pure_ (i := 4) (N := some 29) (v := undef) (a' := ?_) #[true, true, true, true, true, false, false, false, false, false, false, false, false, false] rfl rfl (by kernel_rfl) (fun _ _ _ h => h) (Or.inr ⟨by rfl, rfl⟩) ?_ ?_
    rotate_left
    · simp only [Act.put, List.setIfInBounds_toArray, List.set_cons_zero, List.set_cons_succ, i64_w, i32_w]
      rfl
    refine pure_ (i := 5) (N := some 30) (v := undef) (a' := ?_) #[true, true, true, true, true, true, false, false, false, false, false, false, false, false] rfl rfl (by kernel_rfl) (fun _ _ _ h => h) (Or.inr ⟨by rfl, rfl⟩) ?_ ?_
    rotate_left
    · simp only [Act.put, List.setIfInBounds_toArray, List.set_cons_zero, List.set_cons_succ, i64_w, i32_w]
      rfl
    refine pure_ (i := 6) (N := some 31) (v := undef) (a' := ?_) #[true, true, true, true, true, true, true, false, false, false, false, false, false, false] rfl rfl (by kernel_rfl) (fun _ _ _ h => h) (Or.inr ⟨by rfl, rfl⟩) ?_ ?_
    rotate_left
    · simp only [Act.put, List.setIfInBounds_toArray, List.set_cons_zero, List.set_cons_succ, i64_w, i32_w]
      rfl
    refine pure_ (i := 7) (N := some 32) (v := undef) (a' := ?_) #[true, true, true, true, true, true, true, true, false, false, false, false, false, false] rfl rfl (by kernel_rfl) (fun _ _ _ h => h) (Or.inr ⟨by rfl, rfl⟩) ?_ ?_
    rotate_left
    · simp only [Act.put, List.setIfInBounds_toArray, List.set_cons_zero, List.set_cons_succ, i64_w, i32_w]
      rfl
    refine pure_ (i := 8) (N := some 33) (v := undef) (a' := ?_) #[true, true, true, true, true, true, true, true, true, false, false, false, false, false] rfl rfl (by kernel_rfl) (fun _ _ _ h => h) (Or.inr ⟨by rfl, rfl⟩) ?_ ?_
    rotate_left
    · simp only [Act.put, List.setIfInBounds_toArray, List.set_cons_zero, List.set_cons_succ, i64_w, i32_w]
      rfl
    refine pure_ (i := 9) (N := some 34) (v := undef) (a' := ?_) #[true, true, true, true, true, true, true, true, true, true, false, false, false, false] rfl rfl (by kernel_rfl) (fun _ _ _ h => h) (Or.inr ⟨by rfl, rfl⟩) ?_ ?_
    rotate_left
    · simp only [Act.put, List.setIfInBounds_toArray, List.set_cons_zero, List.set_cons_succ, i64_w, i32_w]
      rfl
    refine pure_ (i := 10) (N := some 35) (v := undef) (a' := ?_) #[true, true, true, true, true, true, true, true, true, true, true, false, false, false] rfl rfl (by kernel_rfl) (fun _ _ _ h => h) (Or.inr ⟨by rfl, rfl⟩) ?_ ?_
    rotate_left
    · simp only [Act.put, List.setIfInBounds_toArray, List.set_cons_zero, List.set_cons_succ, i64_w, i32_w]
      rfl
    refine pure_ (i := 11) (N := some 36) (v := undef) (a' := ?_) #[true, true, true, true, true, true, true, true, true, true, true, true, false, false] rfl rfl (by kernel_rfl) (fun _ _ _ h => h) (Or.inr ⟨by rfl, rfl⟩) ?_ ?_
    rotate_left
    · simp only [Act.put, List.setIfInBounds_toArray, List.set_cons_zero, List.set_cons_succ, i64_w, i32_w]
      rfl
    refine pure_ (i := 12) (N := some 37) (v := undef) (a' := ?_) #[true, true, true, true, true, true, true, true, true, true, true, true, true, false] rfl rfl (by kernel_rfl) (fun _ _ _ h => h) (Or.inr ⟨by rfl, rfl⟩) ?_ ?_
    rotate_left
    · simp only [Act.put, List.setIfInBounds_toArray, List.set_cons_zero, List.set_cons_succ, i64_w, i32_w]
      rfl
    refine pure_ (i := 13) (N := some 38) (v := ?_) (a' := ?_) #[true, true, true, true, true, true, true, true, true, true, true, true, true, true] rfl rfl (by kernel_rfl) (fun _ _ _ h => h) (Or.inl ⟨by rfl, ?_⟩) ?_ ?_
    rotate_left
    · intro w'
      go_simp
      with_reducible rfl
    rotate_left
    · simp only [Act.put, List.setIfInBounds_toArray, List.set_cons_zero, List.set_cons_succ, i64_w, i32_w]
      rfl
    refine done_ (by kernel_rfl) ?_
    go_wp2_with fail
    go_ret2
    exact ⟨rfl, HB0.out.drew⟩
  · have H1 := H.out
    rw [if_neg c5] at H1
    have c5b : decide (d < 1) = false := decide_eq_false c5
    have hm0 : (0 ≤ m) = True := eq_true (by omega)
    have hm1 : (m < 13) = True := eq_true (by omega)
    have e1 : wrap64 (m - 1) = m - 1 := by unfold wrap64; omega
    have hn0 : (0 ≤ m - 1) = True := eq_true (by omega)
    have hn1 : (m - 1 < 13) = True := eq_true (by omega)
    have cm : w2.cell? ⟨g, m.toNat, none⟩ = some (.int .i64 (rd [l0, l1, l2, l3, l4, l5, l6, l7, l8, l9, l10, l11, l12] m)) := date_ahead.at HA0.out m (by omega) (by omega)
    have cn : w2.cell? ⟨g, m.toNat - 1, none⟩ = some (.int .i64 (rd [l0, l1, l2, l3, l4, l5, l6, l7, l8, l9, l10, l11, l12] (m - 1))) := by have h := date_ahead.at HA0.out (m - 1) (by omega) (by omega); rwa [show (m - 1).toNat = m.toNat - 1 from by omega] at h
    rw [e1] at H1
    have H2 := Aside0.mk H1
    clear H1 H
    refine start_ (n := 14) (S := fun w' => w'.cell? ⟨g, m.toNat, none⟩ = some (.int .i64 (rd [l0, l1, l2, l3, l4, l5, l6, l7, l8, l9, l10, l11, l12] m)) ∧ w'.cell? ⟨g, m.toNat - 1, none⟩ = some (.int .i64 (rd [l0, l1, l2, l3, l4, l5, l6, l7, l8, l9, l10, l11, l12] (m - 1)))) (ds := []) #[false, false, false, false, false, false, false, false, false, false, false, false, false, false] (by kernel_rfl) rfl rfl ⟨cm, cn⟩ (fun hHeld => ?_)
    refine pure_ (i := 0) (N := some 25) (v := ?_) (a' := ?_) #[true, false, false, false, false, false, false, false, false, false, false, false, false, false] rfl rfl (by kernel_rfl) (fun _ _ _ h => h) (Or.inl ⟨by rfl, ?_⟩) ?_ ?_
    rotate_left
    · intro w'
      go_simp
      with_reducible rfl
    rotate_left
    · simp only [Act.put, List.setIfInBounds_toArray, List.set_cons_zero, List.set_cons_succ, i64_w, i32_w]
      rfl
    refine pure_ (i := 1) (N := some 26) (v := ?_) (a' := ?_) #[true, true, false, false, false, false, false, false, false, false, false, false, false, false] rfl rfl (by kernel_rfl) (fun _ _ _ h => h) (Or.inl ⟨by rfl, ?_⟩) ?_ ?_
    rotate_left
    · intro w'
      go_simp
      with_reducible rfl
    rotate_left
    · simp only [Act.put, List.setIfInBounds_toArray, List.set_cons_zero, List.set_cons_succ, i64_w, i32_w]
      rfl
    refine pure_ (i := 2) (N := some 27) (v := ?_) (a' := ?_) #[true, true, true, false, false, false, false, false, false, false, false, false, false, false] rfl rfl (by kernel_rfl) (fun _ _ _ h => h) (Or.inl ⟨by rfl, ?_⟩) ?_ ?_
    rotate_left
    · intro w'
      go_simp
      with_reducible rfl
    rotate_left
    · simp only [Act.put, List.setIfInBounds_toArray, List.set_cons_zero, List.set_cons_succ, i64_w, i32_w]
      rfl
    refine pure_ (i := 3) (N := some 28) (v := ?_) (a' := ?_) #[true, true, true, true, false, false, false, false, false, false, false, false, false, false] rfl rfl (by kernel_rfl) (fun _ _ _ h => h) (Or.inl ⟨by rfl, ?_⟩) ?_ ?_
    rotate_left
    · intro w'
      go_simp
      with_reducible rfl
    rotate_left
    · simp only [Act.put, List.setIfInBounds_toArray, List.set_cons_zero, List.set_cons_succ, i64_w, i32_w]
      rfl
    refine pure_ (i := 4) (N := some 29) (v := ?_) (a' := ?_) #[true, true, true, true, true, false, false, false, false, false, false, false, false, false] rfl rfl (by kernel_rfl) (fun _ _ _ h => h) (Or.inl ⟨by rfl, ?_⟩) ?_ ?_
    rotate_left
    · intro w'
      go_simp
      with_reducible rfl
    rotate_left
    · simp only [Act.put, List.setIfInBounds_toArray, List.set_cons_zero, List.set_cons_succ, i64_w, i32_w]
      rfl
    refine pure_ (i := 5) (N := some 30) (v := ?_) (a' := ?_) #[true, true, true, true, true, true, false, false, false, false, false, false, false, false] rfl rfl (by kernel_rfl) (fun _ _ _ h => h) (Or.inl ⟨by rfl, ?_⟩) ?_ ?_
    rotate_left
    · intro w'
      go_simp
      with_reducible rfl
    rotate_left
    · simp only [Act.put, List.setIfInBounds_toArray, List.set_cons_zero, List.set_cons_succ, i64_w, i32_w]
      rfl
    refine pure_ (i := 7) (N := some 32) (v := ?_) (a' := ?_) #[true, true, true, true, true, true, false, true, false, false, false, false, false, false] rfl rfl (by kernel_rfl) (fun _ _ _ h => h) (Or.inl ⟨by rfl, ?_⟩) ?_ ?_
    rotate_left
    · intro w'
      go_simp
      with_reducible rfl
    rotate_left
    · simp only [Act.put, List.setIfInBounds_toArray, List.set_cons_zero, List.set_cons_succ, i64_w, i32_w]
      rfl
    refine pure_ (i := 8) (N := some 33) (v := ?_) (a' := ?_) #[true, true, true, true, true, true, false, true, true, false, false, false, false, false] rfl rfl (by kernel_rfl) (fun _ _ _ h => h) (Or.inl ⟨by rfl, ?_⟩) ?_ ?_
    rotate_left
    · intro w'
      go_simp
      with_reducible rfl
    rotate_left
    · simp only [Act.put, List.setIfInBounds_toArray, List.set_cons_zero, List.set_cons_succ, i64_w, i32_w]
      rfl
    refine pure_ (i := 9) (N := some 34) (v := ?_) (a' := ?_) #[true, true, true, true, true, true, false, true, true, true, false, false, false, false] rfl rfl (by kernel_rfl) (fun _ _ _ h => h) (Or.inl ⟨by rfl, ?_⟩) ?_ ?_
    rotate_left
    · intro w'
      go_simp
      with_reducible rfl
    rotate_left
    · simp only [Act.put, List.setIfInBounds_toArray, List.set_cons_zero, List.set_cons_succ, i64_w, i32_w]
      rfl
    refine take_ (i := 6) (N := some 31) (v := ?_) (a' := ?_) #[true, true, true, true, true, true, true, true, true, true, false, false, false, false] rfl rfl (by kernel_rfl) (fun _ _ _ h => h) (Or.inl ⟨by rfl, ?_⟩) hHeld ?_ ?_
    rotate_left
    · rintro w' ⟨s0, s1⟩
      go_simp
      with_reducible rfl
    rotate_left
    · simp only [Act.put, List.setIfInBounds_toArray, List.set_cons_zero, List.set_cons_succ, i64_w, i32_w]
      rfl
    refine take_ (i := 10) (N := some 35) (v := ?_) (a' := ?_) #[true, true, true, true, true, true, true, true, true, true, true, false, false, false] rfl rfl (by kernel_rfl) (fun _ _ _ h => h) (Or.inl ⟨by rfl, ?_⟩) hHeld ?_ ?_
    rotate_left
    · rintro w' ⟨s0, s1⟩
      go_simp
      with_reducible rfl
    rotate_left
    · simp only [Act.put, List.setIfInBounds_toArray, List.set_cons_zero, List.set_cons_succ, i64_w, i32_w]
      rfl
    refine pure_ (i := 11) (N := some 36) (v := ?_) (a' := ?_) #[true, true, true, true, true, true, true, true, true, true, true, true, false, false] rfl rfl (by kernel_rfl) (fun _ _ _ h => h) (Or.inl ⟨by rfl, ?_⟩) ?_ ?_
    rotate_left
    · intro w'
      go_simp
      with_reducible rfl
    rotate_left
    · simp only [Act.put, List.setIfInBounds_toArray, List.set_cons_zero, List.set_cons_succ, i64_w, i32_w]
      rfl
    refine pure_ (i := 12) (N := some 37) (v := ?_) (a' := ?_) #[true, true, true, true, true, true, true, true, true, true, true, true, true, false] rfl rfl (by kernel_rfl) (fun _ _ _ h => h) (Or.inl ⟨by rfl, ?_⟩) ?_ ?_
    rotate_left
    · intro w'
      go_simp
      with_reducible rfl
    rotate_left
    · simp only [Act.put, List.setIfInBounds_toArray, List.set_cons_zero, List.set_cons_succ, i64_w, i32_w]
      rfl
    refine pure_ (i := 13) (N := some 38) (v := ?_) (a' := ?_) #[true, true, true, true, true, true, true, true, true, true, true, true, true, true] rfl rfl (by kernel_rfl) (fun _ _ _ h => h) (Or.inl ⟨by rfl, ?_⟩) ?_ ?_
    rotate_left
    · intro w'
      go_simp
      with_reducible rfl
    rotate_left
    · simp only [Act.put, List.setIfInBounds_toArray, List.set_cons_zero, List.set_cons_succ, i64_w, i32_w]
      rfl
    refine done_ (by kernel_rfl) ?_
    by_cases c6 : d > wrap64 (rd [l0, l1, l2, l3, l4, l5, l6, l7, l8, l9, l10, l11, l12] m - rd [l0, l1, l2, l3, l4, l5, l6, l7, l8, l9, l10, l11, l12] (m - 1))
    · have H3 := H2.out
      rw [if_pos c6] at H3
      obtain ⟨rfl, rfl⟩ := Prod.mk.inj (Option.some.inj H3)
      clear H3 H2
      go_wp2_with fail
      go_ret2
      exact ⟨rfl, HB0.out.drew⟩
    · have H3 := H2.out
      rw [if_neg c6] at H3
      obtain ⟨t, ht, H4⟩ := Option.bind_eq_some_iff.mp H3
      obtain ⟨rfl, rfl⟩ := Prod.mk.inj (Option.some.inj H4)
      have HT := Aside0.mk ht
      have HA1 := Aside0.mk HA0.out.drew
      have HB1 := Aside0.mk HB0.out.drew
      clear H3 H4 H2 ht HA0 HB0 cm cn
      go_wp2_with fail
      have cn := date_ahead.below_one HA1.out m (by omega) (by omega)
      refine start_ (n := 12) (S := fun w' => w'.cell? ⟨g, m.toNat - 1, none⟩ = some (.int .i64 (rd [l0, l1, l2, l3, l4, l5, l6, l7, l8, l9, l10, l11, l12] (m - 1)))) (ds := []) #[false, false, false, false, false, false, false, false, false, false, false, false] (by kernel_rfl) rfl rfl (cn) (fun hHeld => ?_)
      refine pure_ (i := 0) (N := some 39) (v := ?_) (a' := ?_) #[true, false, false, false, false, false, false, false, false, false, false, false] rfl rfl (by kernel_rfl) (fun _ _ _ h => h) (Or.inl ⟨by rfl, ?_⟩) ?_ ?_
      rotate_left
      · intro w'
        go_simp
        with_reducible rfl
      rotate_left
      · simp only [Act.put, List.setIfInBounds_toArray, List.set_cons_zero, List.set_cons_succ, i64_w, i32_w]
        rfl
      refine pure_ (i := 2) (N := some 41) (v := ?_) (a' := ?_) #[true, false, true, false, false, false, false, false, false, false, false, false] rfl rfl (by kernel_rfl) (fun _ _ _ h => h) (Or.inl ⟨by rfl, ?_⟩) ?_ ?_
      rotate_left
      · intro w'
        go_simp
        with_reducible rfl
      rotate_left
      · simp only [Act.put, List.setIfInBounds_toArray, List.set_cons_zero, List.set_cons_succ, i64_w, i32_w]
        rfl
      refine pure_ (i := 3) (N := some 42) (v := ?_) (a' := ?_) #[true, false, true, true, false, false, false, false, false, false, false, false] rfl rfl (by kernel_rfl) (fun _ _ _ h => h) (Or.inl ⟨by rfl, ?_⟩) ?_ ?_
      rotate_left
      · intro w'
        go_simp
        with_reducible rfl
      rotate_left
      · simp only [Act.put, List.setIfInBounds_toArray, List.set_cons_zero, List.set_cons_succ, i64_w, i32_w]
        rfl
      refine pure_ (i := 4) (N := some 43) (v := ?_) (a' := ?_) #[true, false, true, true, true, false, false, false, false, false, false, false] rfl rfl (by kernel_rfl) (fun _ _ _ h => h) (Or.inl ⟨by rfl, ?_⟩) ?_ ?_
      rotate_left
      · intro w'
        go_simp
        with_reducible rfl
      rotate_left
      · simp only [Act.put, List.setIfInBounds_toArray, List.set_cons_zero, List.set_cons_succ, i64_w, i32_w]
        rfl
      refine pure_ (i := 6) (N := some 45) (v := ?_) (a' := ?_) #[true, false, true, true, true, false, true, false, false, false, false, false] rfl rfl (by kernel_rfl) (fun _ _ _ h => h) (Or.inl ⟨by rfl, ?_⟩) ?_ ?_
      rotate_left
      · intro w'
        go_simp
        with_reducible rfl
      rotate_left
      · simp only [Act.put, List.setIfInBounds_toArray, List.set_cons_zero, List.set_cons_succ, i64_w, i32_w]
        rfl
      refine take_ (i := 5) (N := some 44) (v := ?_) (a' := ?_) #[true, false, true, true, true, true, true, false, false, false, false, false] rfl rfl (by kernel_rfl) (fun _ _ _ h => h) (Or.inl ⟨by rfl, ?_⟩) hHeld ?_ ?_
      rotate_left
      · intro w' s0
        go_simp
        with_reducible rfl
      rotate_left
      · simp only [Act.put, List.setIfInBounds_toArray, List.set_cons_zero, List.set_cons_succ, i64_w, i32_w]
        rfl
      refine pure_ (i := 7) (N := some 46) (v := ?_) (a' := ?_) #[true, false, true, true, true, true, true, true, false, false, false, false] rfl rfl (by kernel_rfl) (fun _ _ _ h => h) (Or.inl ⟨by rfl, ?_⟩) ?_ ?_
      rotate_left
      · intro w'
        go_simp
        with_reducible rfl
      rotate_left
      · simp only [Act.put, List.setIfInBounds_toArray, List.set_cons_zero, List.set_cons_succ, i64_w, i32_w]
        rfl
      refine pure_ (i := 8) (N := some 47) (v := ?_) (a' := ?_) #[true, false, true, true, true, true, true, true, true, false, false, false] rfl rfl (by kernel_rfl) (fun _ _ _ h => h) (Or.inl ⟨by rfl, ?_⟩) ?_ ?_
      rotate_left
      · intro w'
        go_simp
        with_reducible rfl
      rotate_left
      · simp only [Act.put, List.setIfInBounds_toArray, List.set_cons_zero, List.set_cons_succ, i64_w, i32_w]
        rfl
      refine one_ (i := 1) (N := some 40) #[true, true, true, true, true, true, true, true, true, false, false, false] rfl rfl (by kernel_rfl) (by decide) (fun K hK => ?_)
      refine goes_ Tryd.func20 (by kernel_rfl) rfl #[.int .i64 y] (by rfl) rfl rfl (by simp only [List.map_toArray, List.map_cons, List.map_nil]; rfl) ?_
      with_reducible refine (date_begin.calls y t _ HT.out).mono ?_
      rintro e w3 ⟨rfl, hb⟩
      refine ⟨_, rfl, ?_⟩
      have HA3 := Aside0.mk (Blk.At.below HA1.out.drew hb.below HA1.out.drew.lt)
      have HB3 := Aside0.mk (below_step HB1.out.drew hb.below)
      clear hb
      refine hK.out _ _ (date_ahead.below_one HA3.out m (by omega) (by omega)) (fun hHeld => ?_)
      clear hK K
      refine norm_ (a' := ?_) ?_ ?_
      rotate_left
      · show Act.put _ (some 40) _ = _
        simp only [Act.put, List.setIfInBounds_toArray, List.set_cons_zero, List.set_cons_succ, i64_w, i32_w]
        rfl
      refine pure_ (i := 9) (N := some 48) (v := ?_) (a' := ?_) #[true, true, true, true, true, true, true, true, true, true, false, false] rfl rfl (by kernel_rfl) (fun _ _ _ h => h) (Or.inl ⟨by rfl, ?_⟩) ?_ ?_
      rotate_left
      · intro w'
        go_simp
        with_reducible rfl
      rotate_left
      · simp only [Act.put, List.setIfInBounds_toArray, List.set_cons_zero, List.set_cons_succ, i64_w, i32_w]
        rfl
      refine pure_ (i := 10) (N := some 6) (v := ?_) (a' := ?_) #[true, true, true, true, true, true, true, true, true, true, true, false] rfl rfl (by kernel_rfl) (fun _ _ _ h => h) (Or.inl ⟨by rfl, ?_⟩) ?_ ?_
      rotate_left
      · intro w'
        go_simp
        with_reducible rfl
      rotate_left
      · simp only [Act.put, List.setIfInBounds_toArray, List.set_cons_zero, List.set_cons_succ, i64_w, i32_w]
        rfl
      refine pure_ (i := 11) (N := some 7) (v := ?_) (a' := ?_) #[true, true, true, true, true, true, true, true, true, true, true, true] rfl rfl (by kernel_rfl) (fun _ _ _ h => h) (Or.inl ⟨by rfl, ?_⟩) ?_ ?_
      rotate_left
      · intro w'
        go_simp
        with_reducible rfl
      rotate_left
      · simp only [Act.put, List.setIfInBounds_toArray, List.set_cons_zero, List.set_cons_succ, i64_w, i32_w]
        rfl
      refine done_ (by kernel_rfl) ?_
      go_wp2_with fail
      go_ret2
      exact ⟨rfl, HB3.out⟩


/-! ### cringleref06_IsLeap: function 11 -/
def cringleref06_IsLeap.f (a0 : Int) : Option (Bool) := if (Int.tmod a0 4) = 0 then (if (Int.tmod a0 100) = 0 then (some ((Int.tmod a0 400) == 0)) else (some true)) else (some ((Int.tmod a0 400) == 0))
set_option maxHeartbeats 8000000 in
set_option maxRecDepth 100000 in
theorem cringleref06_IsLeap.calls (a0 : Int) (r : Bool) (w : World) (h : cringleref06_IsLeap.f a0 = some r) :
    Calls Tryd.prog 11 #[.int .i64 a0] w fun e w' => e = .returned (.bool r) ∧ Drawn0 w w' := by
  have H : (if (Int.tmod a0 4) = 0 then (if (Int.tmod a0 100) = 0 then (some ((Int.tmod a0 400) == 0)) else (some true)) else (some ((Int.tmod a0 400) == 0))) = some r := h
  clear h
  by_cases c2 : (Int.tmod a0 4) = 0
  · rw [if_pos c2] at H
    have c2b0 : ((Int.tmod a0 4) == 0) = true := beq_iff_eq.mpr c2
    have c2b1 : ((Int.tmod a0 4) != 0) = false := bne_eq_false_iff_eq.mpr c2
    clear c2
    by_cases c3 : (Int.tmod a0 100) = 0
    · rw [if_pos c3] at H
      have c3b0 : ((Int.tmod a0 100) == 0) = true := beq_iff_eq.mpr c3
      have c3b1 : ((Int.tmod a0 100) != 0) = false := bne_eq_false_iff_eq.mpr c3
      clear c3
      obtain rfl := Option.some.inj H
      go_enter Tryd.func11, Tryd.ntmps11
      go_wp2
      go_ret
      exact ⟨by first | rfl | (simp; done) | (simp [*]; done) | (simp; unfold wrap64; omega), by repeat (first | exact Drawn0.refl _ | apply Drawn0.step)⟩
    · rw [if_neg c3] at H
      have c3b0 : ((Int.tmod a0 100) == 0) = false := beq_eq_false_iff_ne.mpr c3
      have c3b1 : ((Int.tmod a0 100) != 0) = true := bne_iff_ne.mpr c3
      obtain rfl := Option.some.inj H
      go_enter Tryd.func11, Tryd.ntmps11
      go_wp2
      go_ret
      exact ⟨by first | rfl | (simp; done) | (simp [*]; done) | (simp; unfold wrap64; omega), by repeat (first | exact Drawn0.refl _ | apply Drawn0.step)⟩
  · rw [if_neg c2] at H
    have c2b0 : ((Int.tmod a0 4) == 0) = false := beq_eq_false_iff_ne.mpr c2
    have c2b1 : ((Int.tmod a0 4) != 0) = true := bne_iff_ne.mpr c2
    obtain rfl := Option.some.inj H
    go_enter Tryd.func11, Tryd.ntmps11
    go_wp2
    go_ret
    exact ⟨by first | rfl | (simp; done) | (simp [*]; done) | (simp; unfold wrap64; omega), by repeat (first | exact Drawn0.refl _ | apply Drawn0.step)⟩

/-! ### cringleref06_month: function 21 -/
def cringleref06_month.f (a0 : Int) (a1 : Int) : Option (Int) := if a1 = 2 then ((cringleref06_IsLeap.f a0).bind fun t101 => (if t101 = true then (some 29) else (some 28))) else (if a1 = 4 then (some 30) else (if a1 = 6 then (some 30) else (if a1 = 9 then (some 30) else (if a1 = 11 then (some 30) else (some 31)))))
set_option maxHeartbeats 8000000 in
set_option maxRecDepth 100000 in
theorem cringleref06_month.calls (a0 : Int) (a1 : Int) (r : Int) (w : World) (h : cringleref06_month.f a0 a1 = some r) :
    Calls Tryd.prog 21 #[.int .i64 a0, .int .i64 a1] w fun e w' => e = .returned (.int .i64 r) ∧ Drawn0 w w' := by
  have H : (if a1 = 2 then ((cringleref06_IsLeap.f a0).bind fun t101 => (if t101 = true then (some 29) else (some 28))) else (if a1 = 4 then (some 30) else (if a1 = 6 then (some 30) else (if a1 = 9 then (some 30) else (if a1 = 11 then (some 30) else (some 31)))))) = some r := h
  clear h
  by_cases c3 : a1 = 2
  · rw [if_pos c3] at H
    have c3b0 : (a1 == 2) = true := beq_iff_eq.mpr c3
    have c3b1 : (a1 != 2) = false := bne_eq_false_iff_eq.mpr c3
    clear c3
    replace H := Option.bind_eq_some_iff.mp H
    obtain ⟨t101, A40, H⟩ := H
    replace H : (if t101 = true then (some 29) else (some 28)) = some r := H
    have A4 := Aside0.mk A40
    clear A40
    by_cases c5 : t101 = true
    · subst c5
      have H1 : (some 29) = some r := by rw [if_pos rfl] at H; exact H
      clear H
      have H := H1
      clear H1
      obtain rfl := Option.some.inj H
      go_enter Tryd.func21, Tryd.ntmps21
      go_wp2_with (first | ((with_reducible refine gate_callee (f := 11) rfl ?_); refine goesL_ (some 9) rfl rfl Tryd.func11 (by kernel_rfl) rfl #[.int .i64 a0] rfl (by (try simp only [List.map_toArray, List.map_cons, List.map_nil]); first | done | rfl | (simp only [List.length_drop, List.length_take]; rfl)) ?_; (with_reducible refine (cringleref06_IsLeap.calls a0 true _ A4.out).mono ?_); rintro e w' ⟨rfl, ⟨nd, rfl⟩⟩; refine ⟨_, rfl, ?_⟩))
      go_ret
      exact ⟨by first | rfl | (simp; done) | (simp [*]; done) | (simp; unfold wrap64; omega), by repeat (first | exact Drawn0.refl _ | apply Drawn0.step)⟩
    · replace c5 := Bool.eq_false_iff.mpr c5
      subst c5
      have H1 : (some 28) = some r := by rw [if_neg (show ¬ (false = true) by decide)] at H; exact H
      clear H
      have H := H1
      clear H1
      obtain rfl := Option.some.inj H
      go_enter Tryd.func21, Tryd.ntmps21
      go_wp2_with (first | ((with_reducible refine gate_callee (f := 11) rfl ?_); refine goesL_ (some 9) rfl rfl Tryd.func11 (by kernel_rfl) rfl #[.int .i64 a0] rfl (by (try simp only [List.map_toArray, List.map_cons, List.map_nil]); first | done | rfl | (simp only [List.length_drop, List.length_take]; rfl)) ?_; (with_reducible refine (cringleref06_IsLeap.calls a0 false _ A4.out).mono ?_); rintro e w' ⟨rfl, ⟨nd, rfl⟩⟩; refine ⟨_, rfl, ?_⟩))
      go_ret
      exact ⟨by first | rfl | (simp; done) | (simp [*]; done) | (simp; unfold wrap64; omega), by repeat (first | exact Drawn0.refl _ | apply Drawn0.step)⟩
  · rw [if_neg c3] at H
    have c3b0 : (a1 == 2) = false := beq_eq_false_iff_ne.mpr c3
    have c3b1 : (a1 != 2) = true := bne_iff_ne.mpr c3
    by_cases c6 : a1 = 4
    · rw [if_pos c6] at H
      have c6b0 : (a1 == 4) = true := beq_iff_eq.mpr c6
      have c6b1 : (a1 != 4) = false := bne_eq_false_iff_eq.mpr c6
      clear c6
      obtain rfl := Option.some.inj H
      go_enter Tryd.func21, Tryd.ntmps21
      go_wp2
      go_ret
      exact ⟨by first | rfl | (simp; done) | (simp [*]; done) | (simp; unfold wrap64; omega), by repeat (first | exact Drawn0.refl _ | apply Drawn0.step)⟩
    · rw [if_neg c6] at H
      have c6b0 : (a1 == 4) = false := beq_eq_false_iff_ne.mpr c6
      have c6b1 : (a1 != 4) = true := bne_iff_ne.mpr c6
      by_cases c7 : a1 = 6
      · rw [if_pos c7] at H
        have c7b0 : (a1 == 6) = true := beq_iff_eq.mpr c7
        have c7b1 : (a1 != 6) = false := bne_eq_false_iff_eq.mpr c7
        clear c7
        obtain rfl := Option.some.inj H
        go_enter Tryd.func21, Tryd.ntmps21
        go_wp2
        go_ret
        exact ⟨by first | rfl | (simp; done) | (simp [*]; done) | (simp; unfold wrap64; omega), by repeat (first | exact Drawn0.refl _ | apply Drawn0.step)⟩
      · rw [if_neg c7] at H
        have c7b0 : (a1 == 6) = false := beq_eq_false_iff_ne.mpr c7
        have c7b1 : (a1 != 6) = true := bne_iff_ne.mpr c7
        by_cases c8 : a1 = 9
        · rw [if_pos c8] at H
          have c8b0 : (a1 == 9) = true := beq_iff_eq.mpr c8
          have c8b1 : (a1 != 9) = false := bne_eq_false_iff_eq.mpr c8
          clear c8
          obtain rfl := Option.some.inj H
          go_enter Tryd.func21, Tryd.ntmps21
          go_wp2
          go_ret
          exact ⟨by first | rfl | (simp; done) | (simp [*]; done) | (simp; unfold wrap64; omega), by repeat (first | exact Drawn0.refl _ | apply Drawn0.step)⟩
        · rw [if_neg c8] at H
          have c8b0 : (a1 == 9) = false := beq_eq_false_iff_ne.mpr c8
          have c8b1 : (a1 != 9) = true := bne_iff_ne.mpr c8
          by_cases c9 : a1 = 11
          · rw [if_pos c9] at H
            have c9b0 : (a1 == 11) = true := beq_iff_eq.mpr c9
            have c9b1 : (a1 != 11) = false := bne_eq_false_iff_eq.mpr c9
            clear c9
            obtain rfl := Option.some.inj H
            go_enter Tryd.func21, Tryd.ntmps21
            go_wp2
            go_ret
            exact ⟨by first | rfl | (simp; done) | (simp [*]; done) | (simp; unfold wrap64; omega), by repeat (first | exact Drawn0.refl _ | apply Drawn0.step)⟩
          · rw [if_neg c9] at H
            have c9b0 : (a1 == 11) = false := beq_eq_false_iff_ne.mpr c9
            have c9b1 : (a1 != 11) = true := bne_iff_ne.mpr c9
            obtain rfl := Option.some.inj H
            go_enter Tryd.func21, Tryd.ntmps21
            go_wp2
            go_ret
            exact ⟨by first | rfl | (simp; done) | (simp [*]; done) | (simp; unfold wrap64; omega), by repeat (first | exact Drawn0.refl _ | apply Drawn0.step)⟩

/-! ### cringleref06_year: function 23 -/
def cringleref06_year.f (a0 : Int) : Option (Int) := (cringleref06_IsLeap.f a0).bind fun t102 => (if t102 = true then (some 366) else (some 365))
set_option maxHeartbeats 8000000 in
set_option maxRecDepth 100000 in
theorem cringleref06_year.calls (a0 : Int) (r : Int) (w : World) (h : cringleref06_year.f a0 = some r) :
    Calls Tryd.prog 23 #[.int .i64 a0] w fun e w' => e = .returned (.int .i64 r) ∧ Drawn0 w w' := by
  have H : ((cringleref06_IsLeap.f a0).bind fun t102 => (if t102 = true then (some 366) else (some 365))) = some r := h
  clear h
  replace H := Option.bind_eq_some_iff.mp H
  obtain ⟨t102, A20, H⟩ := H
  replace H : (if t102 = true then (some 366) else (some 365)) = some r := H
  have A2 := Aside0.mk A20
  clear A20
  by_cases c3 : t102 = true
  · subst c3
    have H1 : (some 366) = some r := by rw [if_pos rfl] at H; exact H
    clear H
    have H := H1
    clear H1
    obtain rfl := Option.some.inj H
    go_enter Tryd.func23, Tryd.ntmps23
    go_wp2_with (first | ((with_reducible refine gate_callee (f := 11) rfl ?_); refine goesL_ (some 4) rfl rfl Tryd.func11 (by kernel_rfl) rfl #[.int .i64 a0] rfl (by (try simp only [List.map_toArray, List.map_cons, List.map_nil]); first | done | rfl | (simp only [List.length_drop, List.length_take]; rfl)) ?_; (with_reducible refine (cringleref06_IsLeap.calls a0 true _ A2.out).mono ?_); rintro e w' ⟨rfl, ⟨nd, rfl⟩⟩; refine ⟨_, rfl, ?_⟩))
    go_ret
    exact ⟨by first | rfl | (simp; done) | (simp [*]; done) | (simp; unfold wrap64; omega), by repeat (first | exact Drawn0.refl _ | apply Drawn0.step)⟩
  · replace c3 := Bool.eq_false_iff.mpr c3
    subst c3
    have H1 : (some 365) = some r := by rw [if_neg (show ¬ (false = true) by decide)] at H; exact H
    clear H
    have H := H1
    clear H1
    obtain rfl := Option.some.inj H
    go_enter Tryd.func23, Tryd.ntmps23
    go_wp2_with (first | ((with_reducible refine gate_callee (f := 11) rfl ?_); refine goesL_ (some 4) rfl rfl Tryd.func11 (by kernel_rfl) rfl #[.int .i64 a0] rfl (by (try simp only [List.map_toArray, List.map_cons, List.map_nil]); first | done | rfl | (simp only [List.length_drop, List.length_take]; rfl)) ?_; (with_reducible refine (cringleref06_IsLeap.calls a0 false _ A2.out).mono ?_); rintro e w' ⟨rfl, ⟨nd, rfl⟩⟩; refine ⟨_, rfl, ?_⟩))
    go_ret
    exact ⟨by first | rfl | (simp; done) | (simp [*]; done) | (simp; unfold wrap64; omega), by repeat (first | exact Drawn0.refl _ | apply Drawn0.step)⟩

end Go.Proofs.YtfoikdjffemhbaaDoor.Q
