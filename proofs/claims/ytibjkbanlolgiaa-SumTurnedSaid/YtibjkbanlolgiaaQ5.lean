-- printed by a program of the session's own; Lean checks it
import Derived.Test.YtibjkbanlolgiaaQ0
import Derived.Test.YtibjkbanlolgiaaQ1
import Derived.Test.YtibjkbanlolgiaaQ2
import Derived.Test.YtibjkbanlolgiaaQ3
import Derived.Test.YtibjkbanlolgiaaQ4
namespace Go.Proofs.Ytibjkbanlolgiaa.Q
open Go.RowKit Go.Proofs.YtibjkbanlolgiaaW.PrintWords Go.Proofs.YtibjkbanlolgiaaW.PrintLast Go.Proofs.YtibjkbanlolgiaaW.PrintMore
attribute [local go_sem] max2_int min2_int max_two min_two max_three min_three max_four min_four   -- for this text's walks alone
set_option linter.unusedVariables false
set_option linter.unusedSimpArgs false

/-! ### cringlelaw08_alive: function 8 -/
def cringlelaw08_alive.f : Option (Bool) := some true
theorem cringlelaw08_alive.v_crc : sum_Crc.f 20 [[49, 50, 51, 52, 53, 54, 55, 56, 57]] = some 3421780262 := by decide +kernel
theorem cringlelaw08_alive.v_add : sum_Sum_Add.f 20 0 0 [97] = some (3904355907, 7246644365750423465) := by decide +kernel
theorem cringlelaw08_alive.v_mark : sum_Sum_Mark.f 3904355907 7246644365750423465 = some 12638187200555641996 := by decide +kernel
theorem cringlelaw08_alive.v_hex : sum_Hex.f 20 255 4 = some ⟨#[48, 48, 102, 102]⟩ := by decide +kernel
set_option maxHeartbeats 1000000 in
theorem cringlelaw08_alive.calls (r : Bool) (w : World) (h : cringlelaw08_alive.f = some r) : Calls Try.prog 8 #[] w fun e w' => e = .returned (.bool r) ∧ Below w.heap.size w w' := by
  obtain rfl : true = r := Option.some.inj h
  clear h
  have kc := fun (w : World) (C : Array Value) (n c g : Nat) (hg : g = w.heap.size) => Go.Joins.run_convert_bytes_const_at (P := Try.prog) w 22 5 C n c g hg Try.underlying22 Try.underlying5
  go_enter Try.func8, Try.ntmps8
  go_wp2_with fail
  refine (sum_Crc.calls 20 _ 1 [[49, 50, 51, 52, 53, 54, 55, 56, 57]] 3421780262 _ ?_ (Nat.le_refl _) cringlelaw08_alive.v_crc).mono ?_
  · refine Kd.C_slices_block (cs := #[Value.slice (some (Addr.mk w.heap.size 0 none)) 9 9]) (e := 22) (fr := (0, 0)) (heap_new _ _ (size_alloc _ _).symm) (fun j p hj => ?_) (by decide)
    obtain rfl : j = 0 := by
      rcases j with _ | j
      · rfl
      · simp at hj
    obtain rfl : [49, 50, 51, 52, 53, 54, 55, 56, 57] = p := by simpa using hj
    refine ⟨some ⟨w.heap.size, 0, none⟩, 9, rfl, by decide, ?_⟩
    exact Kd.C_ints_block (e := 5) (fr := (9, 10)) (cs := #[.int .u8 49, .int .u8 50, .int .u8 51, .int .u8 52, .int .u8 53, .int .u8 54, .int .u8 55, .int .u8 56, .int .u8 57]) ((heap_old _ _ (by rw [size_alloc]; omega)).trans (heap_new _ _ rfl)) rfl (by decide)
  rintro e w1 ⟨rfl, hb1⟩
  have HB1 := Aside0.mk (show Below w.heap.size w w1 from ((below_alloc (below_alloc (Below.refl _ _) _) _).trans (hb1.mono (by simp only [size_alloc]; omega))))
  clear hb1
  go_wp2_with fail
  refine (sum_New.calls 0 0 w1 rfl).mono ?_
  rintro e w2 ⟨rfl, hb2⟩
  have HB2 := Aside0.mk (HB1.out.trans (hb2.mono HB1.out.size))
  clear hb2
  go_wp2_with fail
  refine (sum_Sum_Add.calls 20 0 0 _ 1 [97] _ _ _ ?_ (Nat.le_refl _) cringlelaw08_alive.v_add).mono ?_
  · exact Kd.C_ints_block (e := 5) (fr := (0, 0)) (cs := #[.int .u8 97]) (heap_new _ _ rfl) rfl (by decide)
  rintro e w3 ⟨rfl, hb3⟩
  have HB3 := Aside0.mk ((below_alloc HB2.out _).trans (hb3.mono (by rw [size_alloc]; have := HB2.out.size; omega)))
  clear hb3
  go_wp2_with fail
  refine (sum_Sum_Mark.calls _ _ _ _ cringlelaw08_alive.v_mark).mono ?_
  rintro e w4 ⟨rfl, hb4⟩
  have HB4 := Aside0.mk (HB3.out.trans (hb4.mono HB3.out.size))
  clear hb4
  go_wp2_with fail
  refine (sum_Hex.calls 20 255 4 _ _ cringlelaw08_alive.v_hex).mono ?_
  rintro e w5 ⟨rfl, hb5⟩
  have HB5 := Aside0.mk (HB4.out.trans (hb5.mono HB4.out.size))
  clear hb5
  go_wp2_with fail
  go_ret
  exact ⟨rfl, HB5.out⟩

end Go.Proofs.Ytibjkbanlolgiaa.Q
