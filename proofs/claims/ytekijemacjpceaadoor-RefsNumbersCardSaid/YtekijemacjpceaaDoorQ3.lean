-- printed by a program of the session's own; Lean checks it
import Derived.Test.YtekijemacjpceaaDoorQ0
namespace Go.Proofs.YtekijemacjpceaaDoor.Q
open Go.RowKit Go.Proofs.YtekijemacjpceaaDoorW.PrintWords Go.Proofs.YtekijemacjpceaaDoorW.PrintLast Go.Proofs.YtekijemacjpceaaDoorW.PrintMore
attribute [local go_sem] max2_int min2_int max_two min_two max_three min_three max_four min_four   -- for this text's walks alone
set_option linter.unusedVariables false
set_option linter.unusedSimpArgs false

/-! ### refs_Number: function 11 -/
def refs_Number.tab : List Int := [8364, 129, 8218, 402, 8222, 8230, 8224, 8225, 710, 8240, 352, 8249, 338, 141, 381, 143, 144, 8216, 8217, 8220, 8221, 8226, 8211, 8212, 732, 8482, 353, 8250, 339, 157, 382, 376]
def refs_Number.f (a0 : Int) : Option (Int) := if 0 ≤ a0 then (if a0 < 4294967296 then (if a0 = 0 then (some 65533) else (if a0 > 1114111 then (some 65533) else (if a0 / 2048 = 27 then (some 65533) else (if a0 ≥ 128 then (if a0 < 160 then (some (rd refs_Number.tab (a0 - 128))) else (some a0)) else (some a0))))) else (none)) else (none)
set_option maxHeartbeats 1000000 in
theorem refs_Number.zero (a0 : Int) (h0 : 0 ≤ a0) (h1 : a0 < 4294967296) (e : a0 = 0) (w : World) :
    Calls Tryd.prog 11 #[.int .u32 a0] w fun e w' => e = .returned (.int .i32 65533) ∧ Below w.heap.size w w' := by
  subst e
  go_enter Tryd.func11, Tryd.ntmps11
  obtain ⟨T1, hT1⟩ : ∃ T : Nat, T = 43 := ⟨_, rfl⟩
  obtain ⟨T2, hT2⟩ : ∃ T : Nat, T = 43 := ⟨_, rfl⟩
  obtain ⟨C, hC⟩ : ∃ C : Array Value, C = #[.int .i32 8364, .int .i32 129, .int .i32 8218, .int .i32 402, .int .i32 8222, .int .i32 8230, .int .i32 8224, .int .i32 8225, .int .i32 710, .int .i32 8240, .int .i32 352, .int .i32 8249, .int .i32 338, .int .i32 141, .int .i32 381, .int .i32 143, .int .i32 144, .int .i32 8216, .int .i32 8217, .int .i32 8220, .int .i32 8221, .int .i32 8226, .int .i32 8211, .int .i32 8212, .int .i32 732, .int .i32 8482, .int .i32 353, .int .i32 8250, .int .i32 339, .int .i32 157, .int .i32 382, .int .i32 376] := ⟨_, rfl⟩
  rw [show Op.store 43 (Operand.tmp 3) (Operand.tmp 4) = Op.store T2 (Operand.tmp 3) (Operand.tmp 4) from by rw [hT2]]
  rw [show ∀ ps, Op.build 43 ps = Op.build T1 ps from fun ps => by rw [hT1]]
  generalize hps : (#[(0, Operand.const (Value.int IntKind.i32 8364)), (1, Operand.const (Value.int IntKind.i32 129)), (2, Operand.const (Value.int IntKind.i32 8218)), (3, Operand.const (Value.int IntKind.i32 402)), (4, Operand.const (Value.int IntKind.i32 8222)), (5, Operand.const (Value.int IntKind.i32 8230)), (6, Operand.const (Value.int IntKind.i32 8224)), (7, Operand.const (Value.int IntKind.i32 8225)), (8, Operand.const (Value.int IntKind.i32 710)), (9, Operand.const (Value.int IntKind.i32 8240)), (10, Operand.const (Value.int IntKind.i32 352)), (11, Operand.const (Value.int IntKind.i32 8249)), (12, Operand.const (Value.int IntKind.i32 338)), (13, Operand.const (Value.int IntKind.i32 141)), (14, Operand.const (Value.int IntKind.i32 381)), (15, Operand.const (Value.int IntKind.i32 143)), (16, Operand.const (Value.int IntKind.i32 144)), (17, Operand.const (Value.int IntKind.i32 8216)), (18, Operand.const (Value.int IntKind.i32 8217)), (19, Operand.const (Value.int IntKind.i32 8220)), (20, Operand.const (Value.int IntKind.i32 8221)), (21, Operand.const (Value.int IntKind.i32 8226)), (22, Operand.const (Value.int IntKind.i32 8211)), (23, Operand.const (Value.int IntKind.i32 8212)), (24, Operand.const (Value.int IntKind.i32 732)), (25, Operand.const (Value.int IntKind.i32 8482)), (26, Operand.const (Value.int IntKind.i32 353)), (27, Operand.const (Value.int IntKind.i32 8250)), (28, Operand.const (Value.int IntKind.i32 339)), (29, Operand.const (Value.int IntKind.i32 157)), (30, Operand.const (Value.int IntKind.i32 382)), (31, Operand.const (Value.int IntKind.i32 376))] : Array (Nat × Operand)) = PS
  have HPS := Aside0.mk hps
  have HT1 := Aside0.mk hT1
  have HT2 := Aside0.mk hT2
  have HC := Aside0.mk hC
  clear hps hT1 hT2 hC
  go_wp2_with fail
  refine Eq.mpr (congrArg (Oper.upon _ _ _ _ _) (?h : _ = Result.ok (Next.value (.agg C)) w)) ?_
  case h =>
    obtain rfl := HPS.out
    obtain rfl := HT1.out
    obtain rfl := HC.out
    kernel_rfl
  rw [Oper.upon_value]
  go_wp2_with fail
  refine Eq.mpr (congrArg (Oper.upon _ _ _ _ _) (?h2 : _ = Result.ok Next.skip (w.alloc (.cells C 43)))) ?_
  case h2 =>
    obtain rfl := HT2.out
    have hs : ∀ W, Sem.run Tryd.prog (sizeOf 43) W = Result.ok 32 W := fun W => by kernel_rfl
    simp only [hs, Result.andThen]
    rw [if_pos (by rw [HC.out]; rfl), Go.run_storeCells_new w 43 _ C (by rw [HC.out]; kernel_rfl) (by rw [HC.out]; rfl) (by rw [HC.out]; kernel_rfl)]
  rw [Oper.upon_skip]
  clear HPS HT1 HT2 HC
  go_wp2_with fail
  go_ret
  exact ⟨rfl, (Below.refl _ _).alloc (Nat.le_refl _) _⟩
set_option maxHeartbeats 1000000 in
theorem refs_Number.great (a0 : Int) (h0 : 0 ≤ a0) (h1 : a0 < 4294967296) (e1 : a0 > 1114111) (w : World) :
    Calls Tryd.prog 11 #[.int .u32 a0] w fun e w' => e = .returned (.int .i32 65533) ∧ Below w.heap.size w w' := by
  have e0 : (a0 == 0) = false := beq_eq_false_iff_ne.mpr (by omega)
  have e2 : decide (1114111 < a0) = true := decide_eq_true (by omega)
  go_enter Tryd.func11, Tryd.ntmps11
  obtain ⟨T1, hT1⟩ : ∃ T : Nat, T = 43 := ⟨_, rfl⟩
  obtain ⟨T2, hT2⟩ : ∃ T : Nat, T = 43 := ⟨_, rfl⟩
  obtain ⟨C, hC⟩ : ∃ C : Array Value, C = #[.int .i32 8364, .int .i32 129, .int .i32 8218, .int .i32 402, .int .i32 8222, .int .i32 8230, .int .i32 8224, .int .i32 8225, .int .i32 710, .int .i32 8240, .int .i32 352, .int .i32 8249, .int .i32 338, .int .i32 141, .int .i32 381, .int .i32 143, .int .i32 144, .int .i32 8216, .int .i32 8217, .int .i32 8220, .int .i32 8221, .int .i32 8226, .int .i32 8211, .int .i32 8212, .int .i32 732, .int .i32 8482, .int .i32 353, .int .i32 8250, .int .i32 339, .int .i32 157, .int .i32 382, .int .i32 376] := ⟨_, rfl⟩
  rw [show Op.store 43 (Operand.tmp 3) (Operand.tmp 4) = Op.store T2 (Operand.tmp 3) (Operand.tmp 4) from by rw [hT2]]
  rw [show ∀ ps, Op.build 43 ps = Op.build T1 ps from fun ps => by rw [hT1]]
  generalize hps : (#[(0, Operand.const (Value.int IntKind.i32 8364)), (1, Operand.const (Value.int IntKind.i32 129)), (2, Operand.const (Value.int IntKind.i32 8218)), (3, Operand.const (Value.int IntKind.i32 402)), (4, Operand.const (Value.int IntKind.i32 8222)), (5, Operand.const (Value.int IntKind.i32 8230)), (6, Operand.const (Value.int IntKind.i32 8224)), (7, Operand.const (Value.int IntKind.i32 8225)), (8, Operand.const (Value.int IntKind.i32 710)), (9, Operand.const (Value.int IntKind.i32 8240)), (10, Operand.const (Value.int IntKind.i32 352)), (11, Operand.const (Value.int IntKind.i32 8249)), (12, Operand.const (Value.int IntKind.i32 338)), (13, Operand.const (Value.int IntKind.i32 141)), (14, Operand.const (Value.int IntKind.i32 381)), (15, Operand.const (Value.int IntKind.i32 143)), (16, Operand.const (Value.int IntKind.i32 144)), (17, Operand.const (Value.int IntKind.i32 8216)), (18, Operand.const (Value.int IntKind.i32 8217)), (19, Operand.const (Value.int IntKind.i32 8220)), (20, Operand.const (Value.int IntKind.i32 8221)), (21, Operand.const (Value.int IntKind.i32 8226)), (22, Operand.const (Value.int IntKind.i32 8211)), (23, Operand.const (Value.int IntKind.i32 8212)), (24, Operand.const (Value.int IntKind.i32 732)), (25, Operand.const (Value.int IntKind.i32 8482)), (26, Operand.const (Value.int IntKind.i32 353)), (27, Operand.const (Value.int IntKind.i32 8250)), (28, Operand.const (Value.int IntKind.i32 339)), (29, Operand.const (Value.int IntKind.i32 157)), (30, Operand.const (Value.int IntKind.i32 382)), (31, Operand.const (Value.int IntKind.i32 376))] : Array (Nat × Operand)) = PS
  have HPS := Aside0.mk hps
  have HT1 := Aside0.mk hT1
  have HT2 := Aside0.mk hT2
  have HC := Aside0.mk hC
  clear hps hT1 hT2 hC
  go_wp2_with fail
  refine Eq.mpr (congrArg (Oper.upon _ _ _ _ _) (?h : _ = Result.ok (Next.value (.agg C)) w)) ?_
  case h =>
    obtain rfl := HPS.out
    obtain rfl := HT1.out
    obtain rfl := HC.out
    kernel_rfl
  rw [Oper.upon_value]
  go_wp2_with fail
  refine Eq.mpr (congrArg (Oper.upon _ _ _ _ _) (?h2 : _ = Result.ok Next.skip (w.alloc (.cells C 43)))) ?_
  case h2 =>
    obtain rfl := HT2.out
    have hs : ∀ W, Sem.run Tryd.prog (sizeOf 43) W = Result.ok 32 W := fun W => by kernel_rfl
    simp only [hs, Result.andThen]
    rw [if_pos (by rw [HC.out]; rfl), Go.run_storeCells_new w 43 _ C (by rw [HC.out]; kernel_rfl) (by rw [HC.out]; rfl) (by rw [HC.out]; kernel_rfl)]
  rw [Oper.upon_skip]
  clear HPS HT1 HT2 HC
  go_wp2_with fail
  go_ret
  exact ⟨rfl, (Below.refl _ _).alloc (Nat.le_refl _) _⟩
set_option maxHeartbeats 1000000 in
theorem refs_Number.half (a0 : Int) (h0 : 0 ≤ a0) (h1 : a0 < 4294967296) (e1 : a0 ≤ 1114111) (hn : ¬ a0 = 0) (e3 : a0 / 2048 = 27) (w : World) :
    Calls Tryd.prog 11 #[.int .u32 a0] w fun e w' => e = .returned (.int .i32 65533) ∧ Below w.heap.size w w' := by
  have e0 : (a0 == 0) = false := beq_eq_false_iff_ne.mpr (by omega)
  have e2 : decide (1114111 < a0) = false := decide_eq_false (by omega)
  have e4 : (a0 / 2048 == 27) = true := beq_iff_eq.mpr e3
  go_enter Tryd.func11, Tryd.ntmps11
  obtain ⟨T1, hT1⟩ : ∃ T : Nat, T = 43 := ⟨_, rfl⟩
  obtain ⟨T2, hT2⟩ : ∃ T : Nat, T = 43 := ⟨_, rfl⟩
  obtain ⟨C, hC⟩ : ∃ C : Array Value, C = #[.int .i32 8364, .int .i32 129, .int .i32 8218, .int .i32 402, .int .i32 8222, .int .i32 8230, .int .i32 8224, .int .i32 8225, .int .i32 710, .int .i32 8240, .int .i32 352, .int .i32 8249, .int .i32 338, .int .i32 141, .int .i32 381, .int .i32 143, .int .i32 144, .int .i32 8216, .int .i32 8217, .int .i32 8220, .int .i32 8221, .int .i32 8226, .int .i32 8211, .int .i32 8212, .int .i32 732, .int .i32 8482, .int .i32 353, .int .i32 8250, .int .i32 339, .int .i32 157, .int .i32 382, .int .i32 376] := ⟨_, rfl⟩
  rw [show Op.store 43 (Operand.tmp 3) (Operand.tmp 4) = Op.store T2 (Operand.tmp 3) (Operand.tmp 4) from by rw [hT2]]
  rw [show ∀ ps, Op.build 43 ps = Op.build T1 ps from fun ps => by rw [hT1]]
  generalize hps : (#[(0, Operand.const (Value.int IntKind.i32 8364)), (1, Operand.const (Value.int IntKind.i32 129)), (2, Operand.const (Value.int IntKind.i32 8218)), (3, Operand.const (Value.int IntKind.i32 402)), (4, Operand.const (Value.int IntKind.i32 8222)), (5, Operand.const (Value.int IntKind.i32 8230)), (6, Operand.const (Value.int IntKind.i32 8224)), (7, Operand.const (Value.int IntKind.i32 8225)), (8, Operand.const (Value.int IntKind.i32 710)), (9, Operand.const (Value.int IntKind.i32 8240)), (10, Operand.const (Value.int IntKind.i32 352)), (11, Operand.const (Value.int IntKind.i32 8249)), (12, Operand.const (Value.int IntKind.i32 338)), (13, Operand.const (Value.int IntKind.i32 141)), (14, Operand.const (Value.int IntKind.i32 381)), (15, Operand.const (Value.int IntKind.i32 143)), (16, Operand.const (Value.int IntKind.i32 144)), (17, Operand.const (Value.int IntKind.i32 8216)), (18, Operand.const (Value.int IntKind.i32 8217)), (19, Operand.const (Value.int IntKind.i32 8220)), (20, Operand.const (Value.int IntKind.i32 8221)), (21, Operand.const (Value.int IntKind.i32 8226)), (22, Operand.const (Value.int IntKind.i32 8211)), (23, Operand.const (Value.int IntKind.i32 8212)), (24, Operand.const (Value.int IntKind.i32 732)), (25, Operand.const (Value.int IntKind.i32 8482)), (26, Operand.const (Value.int IntKind.i32 353)), (27, Operand.const (Value.int IntKind.i32 8250)), (28, Operand.const (Value.int IntKind.i32 339)), (29, Operand.const (Value.int IntKind.i32 157)), (30, Operand.const (Value.int IntKind.i32 382)), (31, Operand.const (Value.int IntKind.i32 376))] : Array (Nat × Operand)) = PS
  have HPS := Aside0.mk hps
  have HT1 := Aside0.mk hT1
  have HT2 := Aside0.mk hT2
  have HC := Aside0.mk hC
  clear hps hT1 hT2 hC
  go_wp2_with fail
  refine Eq.mpr (congrArg (Oper.upon _ _ _ _ _) (?h : _ = Result.ok (Next.value (.agg C)) w)) ?_
  case h =>
    obtain rfl := HPS.out
    obtain rfl := HT1.out
    obtain rfl := HC.out
    kernel_rfl
  rw [Oper.upon_value]
  go_wp2_with fail
  refine Eq.mpr (congrArg (Oper.upon _ _ _ _ _) (?h2 : _ = Result.ok Next.skip (w.alloc (.cells C 43)))) ?_
  case h2 =>
    obtain rfl := HT2.out
    have hs : ∀ W, Sem.run Tryd.prog (sizeOf 43) W = Result.ok 32 W := fun W => by kernel_rfl
    simp only [hs, Result.andThen]
    rw [if_pos (by rw [HC.out]; rfl), Go.run_storeCells_new w 43 _ C (by rw [HC.out]; kernel_rfl) (by rw [HC.out]; rfl) (by rw [HC.out]; kernel_rfl)]
  rw [Oper.upon_skip]
  clear HPS HT1 HT2 HC
  go_wp2_with fail
  go_ret
  exact ⟨rfl, (Below.refl _ _).alloc (Nat.le_refl _) _⟩
set_option maxHeartbeats 1000000 in
theorem refs_Number.tabbed (a0 : Int) (h0 : 0 ≤ a0) (h1 : a0 < 4294967296) (j : Nat) (hj : j < 32) (ej : a0 = (j : Int) + 128) (w : World) :
    Calls Tryd.prog 11 #[.int .u32 a0] w fun e w' => e = .returned (.int .i32 (rd refs_Number.tab (j : Int))) ∧ Below w.heap.size w w' := by
  subst ej
  have e0 : (((j : Int) + 128) == 0) = false := beq_eq_false_iff_ne.mpr (by omega)
  have e2 : decide (1114111 < (j : Int) + 128) = false := decide_eq_false (by omega)
  have e4 : (((j : Int) + 128) / 2048 == 27) = false := beq_eq_false_iff_ne.mpr (by omega)
  have e5 : decide (128 ≤ (j : Int) + 128) = true := decide_eq_true (by omega)
  have e6 : ((j : Int) + 128 - 128) = (j : Int) := by omega
  have e7 : (j : Int) % 4294967296 = (j : Int) := by omega
  have e8 : decide ((j : Int) < 32) = true := decide_eq_true (by omega)
  have e9 : (0 : Int) ≤ (j : Int) := by omega
  have e10 : (j : Int) < 32 := by omega
  go_enter Tryd.func11, Tryd.ntmps11
  obtain ⟨T1, hT1⟩ : ∃ T : Nat, T = 43 := ⟨_, rfl⟩
  obtain ⟨T2, hT2⟩ : ∃ T : Nat, T = 43 := ⟨_, rfl⟩
  obtain ⟨C, hC⟩ : ∃ C : Array Value, C = #[.int .i32 8364, .int .i32 129, .int .i32 8218, .int .i32 402, .int .i32 8222, .int .i32 8230, .int .i32 8224, .int .i32 8225, .int .i32 710, .int .i32 8240, .int .i32 352, .int .i32 8249, .int .i32 338, .int .i32 141, .int .i32 381, .int .i32 143, .int .i32 144, .int .i32 8216, .int .i32 8217, .int .i32 8220, .int .i32 8221, .int .i32 8226, .int .i32 8211, .int .i32 8212, .int .i32 732, .int .i32 8482, .int .i32 353, .int .i32 8250, .int .i32 339, .int .i32 157, .int .i32 382, .int .i32 376] := ⟨_, rfl⟩
  rw [show Op.store 43 (Operand.tmp 3) (Operand.tmp 4) = Op.store T2 (Operand.tmp 3) (Operand.tmp 4) from by rw [hT2]]
  rw [show ∀ ps, Op.build 43 ps = Op.build T1 ps from fun ps => by rw [hT1]]
  generalize hps : (#[(0, Operand.const (Value.int IntKind.i32 8364)), (1, Operand.const (Value.int IntKind.i32 129)), (2, Operand.const (Value.int IntKind.i32 8218)), (3, Operand.const (Value.int IntKind.i32 402)), (4, Operand.const (Value.int IntKind.i32 8222)), (5, Operand.const (Value.int IntKind.i32 8230)), (6, Operand.const (Value.int IntKind.i32 8224)), (7, Operand.const (Value.int IntKind.i32 8225)), (8, Operand.const (Value.int IntKind.i32 710)), (9, Operand.const (Value.int IntKind.i32 8240)), (10, Operand.const (Value.int IntKind.i32 352)), (11, Operand.const (Value.int IntKind.i32 8249)), (12, Operand.const (Value.int IntKind.i32 338)), (13, Operand.const (Value.int IntKind.i32 141)), (14, Operand.const (Value.int IntKind.i32 381)), (15, Operand.const (Value.int IntKind.i32 143)), (16, Operand.const (Value.int IntKind.i32 144)), (17, Operand.const (Value.int IntKind.i32 8216)), (18, Operand.const (Value.int IntKind.i32 8217)), (19, Operand.const (Value.int IntKind.i32 8220)), (20, Operand.const (Value.int IntKind.i32 8221)), (21, Operand.const (Value.int IntKind.i32 8226)), (22, Operand.const (Value.int IntKind.i32 8211)), (23, Operand.const (Value.int IntKind.i32 8212)), (24, Operand.const (Value.int IntKind.i32 732)), (25, Operand.const (Value.int IntKind.i32 8482)), (26, Operand.const (Value.int IntKind.i32 353)), (27, Operand.const (Value.int IntKind.i32 8250)), (28, Operand.const (Value.int IntKind.i32 339)), (29, Operand.const (Value.int IntKind.i32 157)), (30, Operand.const (Value.int IntKind.i32 382)), (31, Operand.const (Value.int IntKind.i32 376))] : Array (Nat × Operand)) = PS
  have HPS := Aside0.mk hps
  have HT1 := Aside0.mk hT1
  have HT2 := Aside0.mk hT2
  have HC := Aside0.mk hC
  clear hps hT1 hT2 hC
  go_wp2_with fail
  refine Eq.mpr (congrArg (Oper.upon _ _ _ _ _) (?h : _ = Result.ok (Next.value (.agg C)) w)) ?_
  case h =>
    obtain rfl := HPS.out
    obtain rfl := HT1.out
    obtain rfl := HC.out
    kernel_rfl
  rw [Oper.upon_value]
  go_wp2_with fail
  refine Eq.mpr (congrArg (Oper.upon _ _ _ _ _) (?h2 : _ = Result.ok Next.skip (w.alloc (.cells C 43)))) ?_
  case h2 =>
    obtain rfl := HT2.out
    have hs : ∀ W, Sem.run Tryd.prog (sizeOf 43) W = Result.ok 32 W := fun W => by kernel_rfl
    simp only [hs, Result.andThen]
    rw [if_pos (by rw [HC.out]; rfl), Go.run_storeCells_new w 43 _ C (by rw [HC.out]; kernel_rfl) (by rw [HC.out]; rfl) (by rw [HC.out]; kernel_rfl)]
  rw [Oper.upon_skip]
  have hcell : (w.alloc (.cells C 43)).cell? ⟨w.heap.size, j, none⟩ = some (.int .i32 (rd refs_Number.tab (j : Int))) := by
    have key : ∀ (j : Nat) (hj : j < 32), C[j]? = some (.int .i32 (rd refs_Number.tab (j : Int))) := by
      rw [HC.out]
      exact fun j hj => match j, hj with
        | 0, _ => rfl
        | 1, _ => rfl
        | 2, _ => rfl
        | 3, _ => rfl
        | 4, _ => rfl
        | 5, _ => rfl
        | 6, _ => rfl
        | 7, _ => rfl
        | 8, _ => rfl
        | 9, _ => rfl
        | 10, _ => rfl
        | 11, _ => rfl
        | 12, _ => rfl
        | 13, _ => rfl
        | 14, _ => rfl
        | 15, _ => rfl
        | 16, _ => rfl
        | 17, _ => rfl
        | 18, _ => rfl
        | 19, _ => rfl
        | 20, _ => rfl
        | 21, _ => rfl
        | 22, _ => rfl
        | 23, _ => rfl
        | 24, _ => rfl
        | 25, _ => rfl
        | 26, _ => rfl
        | 27, _ => rfl
        | 28, _ => rfl
        | 29, _ => rfl
        | 30, _ => rfl
        | 31, _ => rfl
        | _ + 32, h => absurd h (by omega)
    rw [Go.Joins.cell_of_block (heap_new w _ rfl)]
    exact key j hj
  clear HPS HT1 HT2 HC
  go_wp2_with fail
  go_ret
  exact ⟨rfl, (Below.refl _ _).alloc (Nat.le_refl _) _⟩
set_option maxHeartbeats 1000000 in
theorem refs_Number.low (a0 : Int) (h0 : 0 ≤ a0) (h1 : a0 < 4294967296) (e1 : a0 < 128) (hn : ¬ a0 = 0) (w : World) :
    Calls Tryd.prog 11 #[.int .u32 a0] w fun e w' => e = .returned (.int .i32 a0) ∧ Below w.heap.size w w' := by
  have e0 : (a0 == 0) = false := beq_eq_false_iff_ne.mpr (by omega)
  have e2 : decide (1114111 < a0) = false := decide_eq_false (by omega)
  have e4 : (a0 / 2048 == 27) = false := beq_eq_false_iff_ne.mpr (by omega)
  have e5 : decide (128 ≤ a0) = false := decide_eq_false (by omega)
  have e6 : wrap32 a0 = a0 := by unfold wrap32; omega
  go_enter Tryd.func11, Tryd.ntmps11
  obtain ⟨T1, hT1⟩ : ∃ T : Nat, T = 43 := ⟨_, rfl⟩
  obtain ⟨T2, hT2⟩ : ∃ T : Nat, T = 43 := ⟨_, rfl⟩
  obtain ⟨C, hC⟩ : ∃ C : Array Value, C = #[.int .i32 8364, .int .i32 129, .int .i32 8218, .int .i32 402, .int .i32 8222, .int .i32 8230, .int .i32 8224, .int .i32 8225, .int .i32 710, .int .i32 8240, .int .i32 352, .int .i32 8249, .int .i32 338, .int .i32 141, .int .i32 381, .int .i32 143, .int .i32 144, .int .i32 8216, .int .i32 8217, .int .i32 8220, .int .i32 8221, .int .i32 8226, .int .i32 8211, .int .i32 8212, .int .i32 732, .int .i32 8482, .int .i32 353, .int .i32 8250, .int .i32 339, .int .i32 157, .int .i32 382, .int .i32 376] := ⟨_, rfl⟩
  rw [show Op.store 43 (Operand.tmp 3) (Operand.tmp 4) = Op.store T2 (Operand.tmp 3) (Operand.tmp 4) from by rw [hT2]]
  rw [show ∀ ps, Op.build 43 ps = Op.build T1 ps from fun ps => by rw [hT1]]
  generalize hps : (#[(0, Operand.const (Value.int IntKind.i32 8364)), (1, Operand.const (Value.int IntKind.i32 129)), (2, Operand.const (Value.int IntKind.i32 8218)), (3, Operand.const (Value.int IntKind.i32 402)), (4, Operand.const (Value.int IntKind.i32 8222)), (5, Operand.const (Value.int IntKind.i32 8230)), (6, Operand.const (Value.int IntKind.i32 8224)), (7, Operand.const (Value.int IntKind.i32 8225)), (8, Operand.const (Value.int IntKind.i32 710)), (9, Operand.const (Value.int IntKind.i32 8240)), (10, Operand.const (Value.int IntKind.i32 352)), (11, Operand.const (Value.int IntKind.i32 8249)), (12, Operand.const (Value.int IntKind.i32 338)), (13, Operand.const (Value.int IntKind.i32 141)), (14, Operand.const (Value.int IntKind.i32 381)), (15, Operand.const (Value.int IntKind.i32 143)), (16, Operand.const (Value.int IntKind.i32 144)), (17, Operand.const (Value.int IntKind.i32 8216)), (18, Operand.const (Value.int IntKind.i32 8217)), (19, Operand.const (Value.int IntKind.i32 8220)), (20, Operand.const (Value.int IntKind.i32 8221)), (21, Operand.const (Value.int IntKind.i32 8226)), (22, Operand.const (Value.int IntKind.i32 8211)), (23, Operand.const (Value.int IntKind.i32 8212)), (24, Operand.const (Value.int IntKind.i32 732)), (25, Operand.const (Value.int IntKind.i32 8482)), (26, Operand.const (Value.int IntKind.i32 353)), (27, Operand.const (Value.int IntKind.i32 8250)), (28, Operand.const (Value.int IntKind.i32 339)), (29, Operand.const (Value.int IntKind.i32 157)), (30, Operand.const (Value.int IntKind.i32 382)), (31, Operand.const (Value.int IntKind.i32 376))] : Array (Nat × Operand)) = PS
  have HPS := Aside0.mk hps
  have HT1 := Aside0.mk hT1
  have HT2 := Aside0.mk hT2
  have HC := Aside0.mk hC
  clear hps hT1 hT2 hC
  go_wp2_with fail
  refine Eq.mpr (congrArg (Oper.upon _ _ _ _ _) (?h : _ = Result.ok (Next.value (.agg C)) w)) ?_
  case h =>
    obtain rfl := HPS.out
    obtain rfl := HT1.out
    obtain rfl := HC.out
    kernel_rfl
  rw [Oper.upon_value]
  go_wp2_with fail
  refine Eq.mpr (congrArg (Oper.upon _ _ _ _ _) (?h2 : _ = Result.ok Next.skip (w.alloc (.cells C 43)))) ?_
  case h2 =>
    obtain rfl := HT2.out
    have hs : ∀ W, Sem.run Tryd.prog (sizeOf 43) W = Result.ok 32 W := fun W => by kernel_rfl
    simp only [hs, Result.andThen]
    rw [if_pos (by rw [HC.out]; rfl), Go.run_storeCells_new w 43 _ C (by rw [HC.out]; kernel_rfl) (by rw [HC.out]; rfl) (by rw [HC.out]; kernel_rfl)]
  rw [Oper.upon_skip]
  clear HPS HT1 HT2 HC
  go_wp2_with fail
  go_ret
  exact ⟨rfl, (Below.refl _ _).alloc (Nat.le_refl _) _⟩
set_option maxHeartbeats 1000000 in
theorem refs_Number.high (a0 : Int) (h0 : 0 ≤ a0) (h1 : a0 < 4294967296) (e1 : a0 ≤ 1114111) (hn : a0 ≥ 160) (e3 : ¬ a0 / 2048 = 27) (w : World) :
    Calls Tryd.prog 11 #[.int .u32 a0] w fun e w' => e = .returned (.int .i32 a0) ∧ Below w.heap.size w w' := by
  have e0 : (a0 == 0) = false := beq_eq_false_iff_ne.mpr (by omega)
  have e2 : decide (1114111 < a0) = false := decide_eq_false (by omega)
  have e4 : (a0 / 2048 == 27) = false := beq_eq_false_iff_ne.mpr e3
  have e5 : decide (128 ≤ a0) = true := decide_eq_true (by omega)
  have e7 : (a0 - 128) % 4294967296 = a0 - 128 := by omega
  have e8 : decide (a0 - 128 < 32) = false := decide_eq_false (by omega)
  have e9 : ¬ (a0 - 128 < 32) := by omega
  have e6 : wrap32 a0 = a0 := by unfold wrap32; omega
  go_enter Tryd.func11, Tryd.ntmps11
  obtain ⟨T1, hT1⟩ : ∃ T : Nat, T = 43 := ⟨_, rfl⟩
  obtain ⟨T2, hT2⟩ : ∃ T : Nat, T = 43 := ⟨_, rfl⟩
  obtain ⟨C, hC⟩ : ∃ C : Array Value, C = #[.int .i32 8364, .int .i32 129, .int .i32 8218, .int .i32 402, .int .i32 8222, .int .i32 8230, .int .i32 8224, .int .i32 8225, .int .i32 710, .int .i32 8240, .int .i32 352, .int .i32 8249, .int .i32 338, .int .i32 141, .int .i32 381, .int .i32 143, .int .i32 144, .int .i32 8216, .int .i32 8217, .int .i32 8220, .int .i32 8221, .int .i32 8226, .int .i32 8211, .int .i32 8212, .int .i32 732, .int .i32 8482, .int .i32 353, .int .i32 8250, .int .i32 339, .int .i32 157, .int .i32 382, .int .i32 376] := ⟨_, rfl⟩
  rw [show Op.store 43 (Operand.tmp 3) (Operand.tmp 4) = Op.store T2 (Operand.tmp 3) (Operand.tmp 4) from by rw [hT2]]
  rw [show ∀ ps, Op.build 43 ps = Op.build T1 ps from fun ps => by rw [hT1]]
  generalize hps : (#[(0, Operand.const (Value.int IntKind.i32 8364)), (1, Operand.const (Value.int IntKind.i32 129)), (2, Operand.const (Value.int IntKind.i32 8218)), (3, Operand.const (Value.int IntKind.i32 402)), (4, Operand.const (Value.int IntKind.i32 8222)), (5, Operand.const (Value.int IntKind.i32 8230)), (6, Operand.const (Value.int IntKind.i32 8224)), (7, Operand.const (Value.int IntKind.i32 8225)), (8, Operand.const (Value.int IntKind.i32 710)), (9, Operand.const (Value.int IntKind.i32 8240)), (10, Operand.const (Value.int IntKind.i32 352)), (11, Operand.const (Value.int IntKind.i32 8249)), (12, Operand.const (Value.int IntKind.i32 338)), (13, Operand.const (Value.int IntKind.i32 141)), (14, Operand.const (Value.int IntKind.i32 381)), (15, Operand.const (Value.int IntKind.i32 143)), (16, Operand.const (Value.int IntKind.i32 144)), (17, Operand.const (Value.int IntKind.i32 8216)), (18, Operand.const (Value.int IntKind.i32 8217)), (19, Operand.const (Value.int IntKind.i32 8220)), (20, Operand.const (Value.int IntKind.i32 8221)), (21, Operand.const (Value.int IntKind.i32 8226)), (22, Operand.const (Value.int IntKind.i32 8211)), (23, Operand.const (Value.int IntKind.i32 8212)), (24, Operand.const (Value.int IntKind.i32 732)), (25, Operand.const (Value.int IntKind.i32 8482)), (26, Operand.const (Value.int IntKind.i32 353)), (27, Operand.const (Value.int IntKind.i32 8250)), (28, Operand.const (Value.int IntKind.i32 339)), (29, Operand.const (Value.int IntKind.i32 157)), (30, Operand.const (Value.int IntKind.i32 382)), (31, Operand.const (Value.int IntKind.i32 376))] : Array (Nat × Operand)) = PS
  have HPS := Aside0.mk hps
  have HT1 := Aside0.mk hT1
  have HT2 := Aside0.mk hT2
  have HC := Aside0.mk hC
  clear hps hT1 hT2 hC
  go_wp2_with fail
  refine Eq.mpr (congrArg (Oper.upon _ _ _ _ _) (?h : _ = Result.ok (Next.value (.agg C)) w)) ?_
  case h =>
    obtain rfl := HPS.out
    obtain rfl := HT1.out
    obtain rfl := HC.out
    kernel_rfl
  rw [Oper.upon_value]
  go_wp2_with fail
  refine Eq.mpr (congrArg (Oper.upon _ _ _ _ _) (?h2 : _ = Result.ok Next.skip (w.alloc (.cells C 43)))) ?_
  case h2 =>
    obtain rfl := HT2.out
    have hs : ∀ W, Sem.run Tryd.prog (sizeOf 43) W = Result.ok 32 W := fun W => by kernel_rfl
    simp only [hs, Result.andThen]
    rw [if_pos (by rw [HC.out]; rfl), Go.run_storeCells_new w 43 _ C (by rw [HC.out]; kernel_rfl) (by rw [HC.out]; rfl) (by rw [HC.out]; kernel_rfl)]
  rw [Oper.upon_skip]
  clear HPS HT1 HT2 HC
  go_wp2_with fail
  go_ret
  exact ⟨rfl, (Below.refl _ _).alloc (Nat.le_refl _) _⟩
theorem refs_Number.calls (a0 : Int) (r : Int) (w : World) (h : refs_Number.f a0 = some r) : Calls Tryd.prog 11 #[.int .u32 a0] w fun e w' => e = .returned (.int .i32 r) ∧ Below w.heap.size w w' := by
  unfold refs_Number.f at h
  by_cases h0 : 0 ≤ a0
  case neg => rw [if_neg h0] at h; cases h
  by_cases h1 : a0 < 4294967296
  case neg => rw [if_pos h0, if_neg h1] at h; cases h
  rw [if_pos h0, if_pos h1] at h
  by_cases c1 : a0 = 0
  · rw [if_pos c1] at h; obtain rfl := Option.some.inj h; exact refs_Number.zero a0 h0 h1 c1 w
  rw [if_neg c1] at h
  by_cases c2 : a0 > 1114111
  · rw [if_pos c2] at h; obtain rfl := Option.some.inj h; exact refs_Number.great a0 h0 h1 c2 w
  rw [if_neg c2] at h
  by_cases c3 : a0 / 2048 = 27
  · rw [if_pos c3] at h; obtain rfl := Option.some.inj h; exact refs_Number.half a0 h0 h1 (by omega) c1 c3 w
  rw [if_neg c3] at h
  by_cases c4 : a0 ≥ 128
  · rw [if_pos c4] at h
    by_cases c5 : a0 < 160
    · rw [if_pos c5] at h
      obtain rfl := Option.some.inj h
      have e : a0 - 128 = (((a0 - 128).toNat : Nat) : Int) := by omega
      rw [e]
      exact refs_Number.tabbed a0 h0 h1 (a0 - 128).toNat (by omega) (by omega) w
    · rw [if_neg c5] at h; obtain rfl := Option.some.inj h; exact refs_Number.high a0 h0 h1 (by omega) (by omega) c3 w
  · rw [if_neg c4] at h; obtain rfl := Option.some.inj h; exact refs_Number.low a0 h0 h1 (by omega) c1 w

/-! ### cringleref11_windows: function 27 -/
def cringleref11_windows.f  : Option (List Int) := some (([8364, 0, 8218, 402, 8222, 8230, 8224, 8225, 710, 8240, 352, 8249, 338, 0, 381, 0, 0, 8216, 8217, 8220, 8221, 8226, 8211, 8212, 732, 8482, 353, 8250, 339, 0, 382, 376] : List Int))
set_option maxHeartbeats 8000000 in
set_option maxRecDepth 100000 in
theorem cringleref11_windows.calls  (r : List Int) (w : World) (h : cringleref11_windows.f  = some r) :
    Calls Tryd.prog 27 #[] w fun e w' => ∃ v0_ : Value, e = .returned (v0_) ∧ Kd.R (Kd.int .i32) 21 w' w.heap.size (fun _ => True) v0_ r ∧ Below w.heap.size w w' := by
  have HB := Aside0.mk (Below.refl w.heap.size w)
  have H : (some (([8364, 0, 8218, 402, 8222, 8230, 8224, 8225, 710, 8240, 352, 8249, 338, 0, 381, 0, 0, 8216, 8217, 8220, 8221, 8226, 8211, 8212, 732, 8482, 353, 8250, 339, 0, 382, 376] : List Int))) = some r := h
  clear h
  obtain ⟨y113, hy113⟩ : ∃ y_ : List Int, y_ = (([8364, 0, 8218, 402, 8222, 8230, 8224, 8225, 710, 8240, 352, 8249, 338, 0, 381, 0, 0, 8216, 8217, 8220, 8221, 8226, 8211, 8212, 732, 8482, 353, 8250, 339, 0, 382, 376] : List Int)) := ⟨_, rfl⟩
  replace H : (some y113) = some r := by first | (rw [hy113]; with_reducible exact H) | (have H2_ := (Option.bind_some _ _).symm.trans H; rw [hy113]; with_reducible exact H2_) | (have H2_ := (Option.bind_some _ _).symm.trans H; with_reducible exact H2_) | with_reducible exact H | (rw [hy113]; exact H) | exact H
  have Ny113 := Aside0.mk hy113
  clear hy113
  obtain rfl := Option.some.inj H
  go_enter Tryd.func27, Tryd.ntmps27
  go_wp2_with (first | ((with_reducible refine gate_dst (N := 1) rfl ?_); refine Kd.R_lit (Kd.int .i32) _ 21 ?hg (N := 1) ?hd (xs := ([8364, 0, 8218, 402, 8222, 8230, 8224, 8225, 710, 8240, 352, 8249, 338, 0, 381, 0, 0, 8216, 8217, 8220, 8221, 8226, 8211, 8212, 732, 8482, 353, 8250, 339, 0, 382, 376] : List Int)) (inner := [.int .i32 8364, .int .i32 0, .int .i32 8218, .int .i32 402, .int .i32 8222, .int .i32 8230, .int .i32 8224, .int .i32 8225, .int .i32 710, .int .i32 8240, .int .i32 352, .int .i32 8249, .int .i32 338, .int .i32 0, .int .i32 381, .int .i32 0, .int .i32 0, .int .i32 8216, .int .i32 8217, .int .i32 8220, .int .i32 8221, .int .i32 8226, .int .i32 8211, .int .i32 8212, .int .i32 732, .int .i32 8482, .int .i32 353, .int .i32 8250, .int .i32 339, .int .i32 0, .int .i32 382, .int .i32 376]) (ok := fun _ => True) (okp := fun _ => True) ?hr ?hp (fun _ hk => hk) trivial (Below.refl _ _) (Nat.le_refl _) (by simp) ?_; (case hd => rfl); (case hg => rfl); (case hr => first | (go_simp; done) | (go_simp; rfl)); (case hp => exact (Reps.one (show Kd.M (Kd.int .i32) _ _ _ 8364 [.int .i32 8364] from rfl) (Reps.one (show Kd.M (Kd.int .i32) _ _ _ 0 [.int .i32 0] from rfl) (Reps.one (show Kd.M (Kd.int .i32) _ _ _ 8218 [.int .i32 8218] from rfl) (Reps.one (show Kd.M (Kd.int .i32) _ _ _ 402 [.int .i32 402] from rfl) (Reps.one (show Kd.M (Kd.int .i32) _ _ _ 8222 [.int .i32 8222] from rfl) (Reps.one (show Kd.M (Kd.int .i32) _ _ _ 8230 [.int .i32 8230] from rfl) (Reps.one (show Kd.M (Kd.int .i32) _ _ _ 8224 [.int .i32 8224] from rfl) (Reps.one (show Kd.M (Kd.int .i32) _ _ _ 8225 [.int .i32 8225] from rfl) (Reps.one (show Kd.M (Kd.int .i32) _ _ _ 710 [.int .i32 710] from rfl) (Reps.one (show Kd.M (Kd.int .i32) _ _ _ 8240 [.int .i32 8240] from rfl) (Reps.one (show Kd.M (Kd.int .i32) _ _ _ 352 [.int .i32 352] from rfl) (Reps.one (show Kd.M (Kd.int .i32) _ _ _ 8249 [.int .i32 8249] from rfl) (Reps.one (show Kd.M (Kd.int .i32) _ _ _ 338 [.int .i32 338] from rfl) (Reps.one (show Kd.M (Kd.int .i32) _ _ _ 0 [.int .i32 0] from rfl) (Reps.one (show Kd.M (Kd.int .i32) _ _ _ 381 [.int .i32 381] from rfl) (Reps.one (show Kd.M (Kd.int .i32) _ _ _ 0 [.int .i32 0] from rfl) (Reps.one (show Kd.M (Kd.int .i32) _ _ _ 0 [.int .i32 0] from rfl) (Reps.one (show Kd.M (Kd.int .i32) _ _ _ 8216 [.int .i32 8216] from rfl) (Reps.one (show Kd.M (Kd.int .i32) _ _ _ 8217 [.int .i32 8217] from rfl) (Reps.one (show Kd.M (Kd.int .i32) _ _ _ 8220 [.int .i32 8220] from rfl) (Reps.one (show Kd.M (Kd.int .i32) _ _ _ 8221 [.int .i32 8221] from rfl) (Reps.one (show Kd.M (Kd.int .i32) _ _ _ 8226 [.int .i32 8226] from rfl) (Reps.one (show Kd.M (Kd.int .i32) _ _ _ 8211 [.int .i32 8211] from rfl) (Reps.one (show Kd.M (Kd.int .i32) _ _ _ 8212 [.int .i32 8212] from rfl) (Reps.one (show Kd.M (Kd.int .i32) _ _ _ 732 [.int .i32 732] from rfl) (Reps.one (show Kd.M (Kd.int .i32) _ _ _ 8482 [.int .i32 8482] from rfl) (Reps.one (show Kd.M (Kd.int .i32) _ _ _ 353 [.int .i32 353] from rfl) (Reps.one (show Kd.M (Kd.int .i32) _ _ _ 8250 [.int .i32 8250] from rfl) (Reps.one (show Kd.M (Kd.int .i32) _ _ _ 339 [.int .i32 339] from rfl) (Reps.one (show Kd.M (Kd.int .i32) _ _ _ 0 [.int .i32 0] from rfl) (Reps.one (show Kd.M (Kd.int .i32) _ _ _ 382 [.int .i32 382] from rfl) (Reps.one (show Kd.M (Kd.int .i32) _ _ _ 376 [.int .i32 376] from rfl) (Reps.none _ _)))))))))))))))))))))))))))))))))); intro v114 w1 ho2 hb hg_ hnew_; clear hg_ hnew_; (first | rw [← Ny113.out] at ho2 | (simp only [Int.reduceToNat] at ho2; rw [← Ny113.out] at ho2)); have n0_ := Aside0.mk (Kd.R_lower ho2 (below_size (by repeat (first | (with_reducible first | exact HB.out | apply below_alloc | apply pw_below_drewN | apply below_drew1) | exact HB.out)))); have n1_ := Aside0.mk (below_step (by repeat (first | (with_reducible first | exact HB.out | apply below_alloc | apply pw_below_drewN | apply below_drew1) | exact HB.out)) hb); clear HB; have HO115 := n0_; have HB := n1_; clear n0_ n1_; clear hb ho2))
  go_ret
  exact ⟨_, by first | rfl | (simp [errW_none, errW_some] <;> rfl) | (simp [*, errW_none, errW_some] <;> rfl), by (with_reducible repeat (first | apply Kd.R_alloc | apply Kd.R_drewN | apply Kd.R_drew)); exact HO115.out, by repeat (first | (with_reducible first | exact HB.out | apply below_alloc | apply pw_below_drewN | apply below_drew1) | exact HB.out)⟩

/-! ### cringleref11_Number: function 12 -/
mutual
def cringleref11_Number.j0 : Nat → Int → Bool → Option (Int)
  | 0, _, _ => none
  | k + 1, x0, x17 => if x17 = true then (some 65533) else (if x0 ≥ 128 then (cringleref11_Number.j1 k x0 (decide (x0 ≤ 159))) else (cringleref11_Number.j1 k x0 false))
def cringleref11_Number.j1 : Nat → Int → Bool → Option (Int)
  | 0, _, _ => none
  | k + 1, x0, x23 => if x23 = true then ((cringleref11_windows.f).bind fun t116 => (if 0 ≤ ((x0 - 128) % 4294967296) then (if ((x0 - 128) % 4294967296) < (t116.length : Int) then (if (rd t116 ((x0 - 128) % 4294967296)) = 0 then (some (wrap32 (x0))) else (some (rd t116 ((x0 - 128) % 4294967296)))) else (none)) else (none))) else (some (wrap32 (x0)))
end
def cringleref11_Number.f (k : Nat) (a0 : Int) : Option (Int) := if a0 = 0 then (cringleref11_Number.j0 k a0 true) else (if a0 > 1114111 then (cringleref11_Number.j0 k a0 true) else (if a0 ≥ 55296 then (cringleref11_Number.j0 k a0 (decide (a0 ≤ 57343))) else (cringleref11_Number.j0 k a0 false)))
theorem cringleref11_Number.mono_l : ∀ k, (∀ y0 y1, LeO (cringleref11_Number.j0 k y0 y1) (cringleref11_Number.j0 (k + 1) y0 y1)) ∧ (∀ y0 y1, LeO (cringleref11_Number.j1 k y0 y1) (cringleref11_Number.j1 (k + 1) y0 y1))
  | 0 => ⟨fun _ _ r h => by simp [cringleref11_Number.j0] at h, fun _ _ r h => by simp [cringleref11_Number.j1] at h⟩
  | k + 1 => by
    obtain ⟨ih0, ih1⟩ := cringleref11_Number.mono_l k
    refine ⟨?_, ?_⟩
    · intro y0 y1
      unfold cringleref11_Number.j0
      repeat' first
      | (with_reducible exact ih0 _ _)
      | (with_reducible exact ih1 _ _)
      | (with_reducible exact LeO.refl _)
      | (with_reducible exact LeO.none _)
      | (with_reducible refine LeO.ite ?_ ?_)
      | (with_reducible refine LeO.bind ?_ (fun _ => ?_))
      | exact ih0 _ _
      | exact ih1 _ _
      | exact LeO.none _
      | refine LeO.ite ?_ ?_
      | refine LeO.bind ?_ (fun _ => ?_)
    · intro y0 y1
      unfold cringleref11_Number.j1
      repeat' first
      | (with_reducible exact ih0 _ _)
      | (with_reducible exact ih1 _ _)
      | (with_reducible exact LeO.refl _)
      | (with_reducible exact LeO.none _)
      | (with_reducible refine LeO.ite ?_ ?_)
      | (with_reducible refine LeO.bind ?_ (fun _ => ?_))
      | exact ih0 _ _
      | exact ih1 _ _
      | exact LeO.none _
      | refine LeO.ite ?_ ?_
      | refine LeO.bind ?_ (fun _ => ?_)
theorem cringleref11_Number.mono : ∀ a0 k, LeO (cringleref11_Number.f k a0) (cringleref11_Number.f (k + 1) a0) := by
  intro a0 k
  obtain ⟨ih0, ih1⟩ := cringleref11_Number.mono_l k
  unfold cringleref11_Number.f
  repeat' first
      | (with_reducible exact ih0 _ _)
      | (with_reducible exact ih1 _ _)
      | (with_reducible exact LeO.refl _)
      | (with_reducible exact LeO.none _)
      | (with_reducible refine LeO.ite ?_ ?_)
      | (with_reducible refine LeO.bind ?_ (fun _ => ?_))
      | exact ih0 _ _
      | exact ih1 _ _
      | exact LeO.none _
      | refine LeO.ite ?_ ?_
      | refine LeO.bind ?_ (fun _ => ?_)
set_option maxHeartbeats 8000000 in
set_option maxRecDepth 100000 in
theorem cringleref11_Number.calls (k : Nat) (a0 : Int) (r : Int) (w : World) (h : cringleref11_Number.f k a0 = some r) :
    Calls Tryd.prog 12 #[.int .u32 a0] w fun e w' => e = .returned (.int .i32 r) ∧ Below w.heap.size w w' := by
  have HB := Aside0.mk (Below.refl w.heap.size w)
  have H : (if a0 = 0 then (cringleref11_Number.j0 k a0 true) else (if a0 > 1114111 then (cringleref11_Number.j0 k a0 true) else (if a0 ≥ 55296 then (cringleref11_Number.j0 k a0 (decide (a0 ≤ 57343))) else (cringleref11_Number.j0 k a0 false)))) = some r := h
  clear h
  have HC2 := Aside0.mk H
  clear H
  go_enter Tryd.func12, Tryd.ntmps12
  go_upto_region 1 with (fail)
  go_cut [17] (fun v17 wc => ∃ (kq : Nat) (x17_1 : Bool), v17 = .bool x17_1 ∧ Aside0 (cringleref11_Number.j0 kq a0 x17_1 = some r) ∧ Aside0 (kq ≤ k) ∧ Aside0 (Below w.heap.size w wc))
  case first =>
    have H := HC2.out
    clear HC2
    by_cases c3 : a0 = 0
    · rw [if_pos c3] at H
      have c3b0 : (a0 == 0) = true := beq_iff_eq.mpr c3
      have c3b1 : (a0 != 0) = false := bne_eq_false_iff_eq.mpr c3
      clear c3
      (first | rw [c3b0] | (simp only [i64_w, i32_w]; rw [c3b0]) | skip)
      have H' := Aside0.mk H
      clear H
      go_wp2
      go_meet
      case rel => exact ⟨_, (true), (by first | rfl | (simp; done) | (simp [*]; done) | (simp; unfold wrap64; omega)), H', ⟨by first | omega | exact Nat.le_refl _⟩, ⟨by repeat (first | (with_reducible first | exact HB.out | apply below_alloc | apply pw_below_drewN | apply below_drew1) | exact HB.out)⟩⟩
    · rw [if_neg c3] at H
      have c3b0 : (a0 == 0) = false := beq_eq_false_iff_ne.mpr c3
      have c3b1 : (a0 != 0) = true := bne_iff_ne.mpr c3
      (first | rw [c3b0] | (simp only [i64_w, i32_w]; rw [c3b0]) | skip)
      by_cases c4 : a0 > 1114111
      · rw [if_pos c4] at H
        have c4b0 : decide (1114111 < a0) = true := decide_eq_true c4
        clear c4
        have H' := Aside0.mk H
        clear H
        go_wp2
        go_meet
        case rel => exact ⟨_, (true), (by first | rfl | (simp; done) | (simp [*]; done) | (simp; unfold wrap64; omega)), H', ⟨by first | omega | exact Nat.le_refl _⟩, ⟨by repeat (first | (with_reducible first | exact HB.out | apply below_alloc | apply pw_below_drewN | apply below_drew1) | exact HB.out)⟩⟩
      · rw [if_neg c4] at H
        have c4b0 : decide (1114111 < a0) = false := decide_eq_false c4
        clear c4
        by_cases c5 : a0 ≥ 55296
        · rw [if_pos c5] at H
          have c5b0 : decide (55296 ≤ a0) = true := decide_eq_true c5
          clear c5
          have H' := Aside0.mk H
          clear H
          go_wp2
          go_meet
          case rel => exact ⟨_, (decide (a0 ≤ 57343)), (by first | rfl | (simp; done) | (simp [*]; done) | (simp; unfold wrap64; omega)), H', ⟨by first | omega | exact Nat.le_refl _⟩, ⟨by repeat (first | (with_reducible first | exact HB.out | apply below_alloc | apply pw_below_drewN | apply below_drew1) | exact HB.out)⟩⟩
        · rw [if_neg c5] at H
          have c5b0 : decide (55296 ≤ a0) = false := decide_eq_false c5
          clear c5
          have H' := Aside0.mk H
          clear H
          go_wp2
          go_meet
          case rel => exact ⟨_, (false), (by first | rfl | (simp; done) | (simp [*]; done) | (simp; unfold wrap64; omega)), H', ⟨by first | omega | exact Nat.le_refl _⟩, ⟨by repeat (first | (with_reducible first | exact HB.out | apply below_alloc | apply pw_below_drewN | apply below_drew1) | exact HB.out)⟩⟩
  case rest =>
    clear HC2
    try clear c1
    try clear p2
    try clear c3
    try clear c3b0
    try clear c3b1
    try clear c4
    try clear c4b0
    try clear c5
    try clear c5b0
    obtain ⟨kq, x17_1, rfl, HA, HJ1, HB⟩ := hcut
    cases kq with
    | zero => exact absurd HA.out (by simp [cringleref11_Number.j0])
    | succ kj1 =>
      have H := HA.out
      clear HA
      simp only [cringleref11_Number.j0] at H
      by_cases c6 : x17_1 = true
      · subst c6
        have H1 : (some 65533) = some r := by rw [if_pos rfl] at H; exact H
        clear H
        have H := H1
        clear H1
        obtain rfl := Option.some.inj H
        go_wp2
        go_ret
        exact ⟨by first | rfl | (simp [errW_none, errW_some] <;> rfl) | (simp [*, errW_none, errW_some] <;> rfl), by repeat (first | (with_reducible first | exact HB.out | apply below_alloc | apply pw_below_drewN | apply below_drew1) | exact HB.out)⟩
      · replace c6 := Bool.eq_false_iff.mpr c6
        subst c6
        have H1 : (if a0 ≥ 128 then (cringleref11_Number.j1 kj1 a0 (decide (a0 ≤ 159))) else (cringleref11_Number.j1 kj1 a0 false)) = some r := by rw [if_neg (show ¬ (false = true) by decide)] at H; exact H
        clear H
        have H := H1
        clear H1
        have HC7 := Aside0.mk H
        clear H
        go_upto_region 3 with (fail)
        go_cut [23] (fun v23 wc => ∃ (kq : Nat) (x23_6 : Bool), v23 = .bool x23_6 ∧ Aside0 (cringleref11_Number.j1 kq a0 x23_6 = some r) ∧ Aside0 (kq ≤ kj1) ∧ Aside0 (Below w.heap.size w wc))
        case first =>
          have H := HC7.out
          clear HC7
          by_cases c8 : a0 ≥ 128
          · rw [if_pos c8] at H
            have c8b0 : decide (128 ≤ a0) = true := decide_eq_true c8
            clear c8
            (first | rw [c8b0] | (simp only [i64_w, i32_w]; rw [c8b0]) | skip)
            have H' := Aside0.mk H
            clear H
            go_wp2
            go_meet
            case rel => exact ⟨_, (decide (a0 ≤ 159)), (by first | rfl | (simp; done) | (simp [*]; done) | (simp; unfold wrap64; omega)), H', ⟨by have := HJ1.out; first | omega | exact Nat.le_refl _⟩, ⟨by repeat (first | (with_reducible first | exact HB.out | apply below_alloc | apply pw_below_drewN | apply below_drew1) | exact HB.out)⟩⟩
          · rw [if_neg c8] at H
            have c8b0 : decide (128 ≤ a0) = false := decide_eq_false c8
            clear c8
            (first | rw [c8b0] | (simp only [i64_w, i32_w]; rw [c8b0]) | skip)
            have H' := Aside0.mk H
            clear H
            go_wp2
            go_meet
            case rel => exact ⟨_, (false), (by first | rfl | (simp; done) | (simp [*]; done) | (simp; unfold wrap64; omega)), H', ⟨by have := HJ1.out; first | omega | exact Nat.le_refl _⟩, ⟨by repeat (first | (with_reducible first | exact HB.out | apply below_alloc | apply pw_below_drewN | apply below_drew1) | exact HB.out)⟩⟩
        case rest =>
          clear HC7
          try clear c1
          try clear p2
          try clear c3
          try clear c3b0
          try clear c3b1
          try clear c4
          try clear c4b0
          try clear c5
          try clear c5b0
          try clear c6
          try clear p6
          try clear c8
          try clear c8b0
          try clear p2
          obtain ⟨kq, x23_6, rfl, HA, HJ6, HB⟩ := hcut
          cases kq with
          | zero => exact absurd HA.out (by simp [cringleref11_Number.j1])
          | succ kj6 =>
            have H := HA.out
            clear HA
            simp only [cringleref11_Number.j1] at H
            by_cases c9 : x23_6 = true
            · subst c9
              have H1 : ((cringleref11_windows.f).bind fun t116 => (if 0 ≤ ((a0 - 128) % 4294967296) then (if ((a0 - 128) % 4294967296) < (t116.length : Int) then (if (rd t116 ((a0 - 128) % 4294967296)) = 0 then (some (wrap32 (a0))) else (some (rd t116 ((a0 - 128) % 4294967296)))) else (none)) else (none))) = some r := by rw [if_pos rfl] at H; exact H
              clear H
              have H := H1
              clear H1
              replace H := Option.bind_eq_some_iff.mp H
              obtain ⟨t116, A100, H⟩ := H
              replace H : (if 0 ≤ ((a0 - 128) % 4294967296) then (if ((a0 - 128) % 4294967296) < (t116.length : Int) then (if (rd t116 ((a0 - 128) % 4294967296)) = 0 then (some (wrap32 (a0))) else (some (rd t116 ((a0 - 128) % 4294967296)))) else (none)) else (none)) = some r := H
              have A10 := Aside0.mk A100
              clear A100
              obtain ⟨ji11, hji11⟩ : ∃ j_ : Int, ((a0 - 128) % 4294967296) = j_ := ⟨_, rfl⟩
              replace H : (if 0 ≤ (ji11) then (if (ji11) < (t116.length : Int) then (if (rd t116 (ji11)) = 0 then (some (wrap32 (a0))) else (some (rd t116 (ji11)))) else (none)) else (none)) = some r := by first | (rw [hji11] at H; exact H) | (simp only [hji11] at H ⊢; exact H)
              (try rw [hji11] at A10)
              by_cases c12 : 0 ≤ (ji11)
              · rw [if_pos c12] at H
                have c12b0 : decide (0 ≤ (ji11)) = true := decide_eq_true c12
                clear c12
                by_cases c13 : (ji11) < (t116.length : Int)
                · rw [if_pos c13] at H
                  have c13b0 : decide ((ji11) < (t116.length : Int)) = true := decide_eq_true c13
                  clear c13
                  by_cases c14 : (rd t116 (ji11)) = 0
                  · rw [if_pos c14] at H
                    have c14b0 : ((rd t116 (ji11)) == 0) = true := beq_iff_eq.mpr c14
                    have c14b1 : ((rd t116 (ji11)) != 0) = false := bne_eq_false_iff_eq.mpr c14
                    clear c14
                    obtain rfl := Option.some.inj H
                    go_wp2_with (first | ((with_reducible refine gate_callee (f := 27) rfl ?_); refine goesL_ (some 24) rfl rfl Tryd.func27 (by kernel_rfl) rfl #[] rfl (by (try simp only [List.map_toArray, List.map_cons, List.map_nil]); first | done | rfl | (simp only [List.length_drop, List.length_take]; rfl)) ?_; (with_reducible refine (cringleref11_windows.calls  t116 _ A10.out).mono ?_); rintro e w15 ⟨v117, rfl, ho0, hb⟩; refine ⟨_, rfl, ?_⟩; have n0_ := Aside0.mk (Kd.R_lower ho0 (below_size (by repeat (first | (with_reducible first | exact HB.out | apply below_alloc | apply pw_below_drewN | apply below_drew1) | exact HB.out)))); have n1_ := Aside0.mk (below_step (by repeat (first | (with_reducible first | exact HB.out | apply below_alloc | apply pw_below_drewN | apply below_drew1) | exact HB.out)) hb); clear HB; have HO118 := n0_; have HB := n1_; clear n0_ n1_; (try clear hb); (try clear hb2); (try clear hk); (try clear hi); (try clear ho0); obtain ⟨Ao16, co16, eo16⟩ := Kd.R_slice HO118.out; subst eo16; have p119 : 0 ≤ ((ji11) : Int) := of_decide_eq_true (by first | (with_reducible assumption) | assumption); have q119 : (ji11) < (t116.length : Int) := of_decide_eq_true (by first | (with_reducible assumption) | assumption); obtain ⟨ad119, e119, hx119_0⟩ := Kd.at_int (Kd.R_reads' HO118.out).2.2 (ji11) p119 q119; cases e119; replace p119 := eq_true p119; replace q119 := eq_true q119))
                    go_ret
                    exact ⟨by first | rfl | (simp [errW_none, errW_some] <;> rfl) | (simp only [← hji11]; first | rfl | (simp [errW_none, errW_some] <;> rfl)) | (simp [*, errW_none, errW_some] <;> rfl), by repeat (first | (with_reducible first | exact HB.out | apply below_alloc | apply pw_below_drewN | apply below_drew1) | exact HB.out)⟩
                  · rw [if_neg c14] at H
                    have c14b0 : ((rd t116 (ji11)) == 0) = false := beq_eq_false_iff_ne.mpr c14
                    have c14b1 : ((rd t116 (ji11)) != 0) = true := bne_iff_ne.mpr c14
                    obtain rfl := Option.some.inj H
                    go_wp2_with (first | ((with_reducible refine gate_callee (f := 27) rfl ?_); refine goesL_ (some 24) rfl rfl Tryd.func27 (by kernel_rfl) rfl #[] rfl (by (try simp only [List.map_toArray, List.map_cons, List.map_nil]); first | done | rfl | (simp only [List.length_drop, List.length_take]; rfl)) ?_; (with_reducible refine (cringleref11_windows.calls  t116 _ A10.out).mono ?_); rintro e w17 ⟨v117, rfl, ho0, hb⟩; refine ⟨_, rfl, ?_⟩; have n0_ := Aside0.mk (Kd.R_lower ho0 (below_size (by repeat (first | (with_reducible first | exact HB.out | apply below_alloc | apply pw_below_drewN | apply below_drew1) | exact HB.out)))); have n1_ := Aside0.mk (below_step (by repeat (first | (with_reducible first | exact HB.out | apply below_alloc | apply pw_below_drewN | apply below_drew1) | exact HB.out)) hb); clear HB; have HO118 := n0_; have HB := n1_; clear n0_ n1_; (try clear hb); (try clear hb2); (try clear hk); (try clear hi); (try clear ho0); obtain ⟨Ao18, co18, eo18⟩ := Kd.R_slice HO118.out; subst eo18; have p119 : 0 ≤ ((ji11) : Int) := of_decide_eq_true (by first | (with_reducible assumption) | assumption); have q119 : (ji11) < (t116.length : Int) := of_decide_eq_true (by first | (with_reducible assumption) | assumption); obtain ⟨ad119, e119, hx119_0⟩ := Kd.at_int (Kd.R_reads' HO118.out).2.2 (ji11) p119 q119; cases e119; replace p119 := eq_true p119; replace q119 := eq_true q119))
                    go_ret
                    exact ⟨by first | rfl | (simp [errW_none, errW_some] <;> rfl) | (simp only [← hji11]; first | rfl | (simp [errW_none, errW_some] <;> rfl)) | (simp [*, errW_none, errW_some] <;> rfl), by repeat (first | (with_reducible first | exact HB.out | apply below_alloc | apply pw_below_drewN | apply below_drew1) | exact HB.out)⟩
                · rw [if_neg c13] at H
                  exact absurd H (by simp)
              · rw [if_neg c12] at H
                exact absurd H (by simp)
            · replace c9 := Bool.eq_false_iff.mpr c9
              subst c9
              have H1 : (some (wrap32 (a0))) = some r := by rw [if_neg (show ¬ (false = true) by decide)] at H; exact H
              clear H
              have H := H1
              clear H1
              obtain rfl := Option.some.inj H
              go_wp2
              go_ret
              exact ⟨by first | rfl | (simp [errW_none, errW_some] <;> rfl) | (simp [*, errW_none, errW_some] <;> rfl), by repeat (first | (with_reducible first | exact HB.out | apply below_alloc | apply pw_below_drewN | apply below_drew1) | exact HB.out)⟩

/-! ### stringslite_HasPrefix: function 42 -/
def stringslite_HasPrefix.f (a0 : ByteArray) (a1 : ByteArray) : Option (Bool) := if (a0.size : Int) ≥ (a1.size : Int) then (if 0 ≤ (a1.size : Int) then (if (a1.size : Int) ≤ (a0.size : Int) then (some ((a0.extract 0 ((a1.size : Int) : Int).toNat).toList == a1.toList)) else (none)) else (none)) else (some false)
set_option maxHeartbeats 8000000 in
set_option maxRecDepth 100000 in
theorem stringslite_HasPrefix.calls (a0 : ByteArray) (a1 : ByteArray) (r : Bool) (w : World) (h : stringslite_HasPrefix.f a0 a1 = some r) :
    Calls Tryd.prog 42 #[.string a0, .string a1] w fun e w' => e = .returned (.bool r) ∧ Drawn0 w w' := by
  have H : (if (a0.size : Int) ≥ (a1.size : Int) then (if 0 ≤ (a1.size : Int) then (if (a1.size : Int) ≤ (a0.size : Int) then (some ((a0.extract 0 ((a1.size : Int) : Int).toNat).toList == a1.toList)) else (none)) else (none)) else (some false)) = some r := h
  clear h
  by_cases c3 : (a0.size : Int) ≥ (a1.size : Int)
  · rw [if_pos c3] at H
    have c3b0 : decide ((a1.size : Int) ≤ (a0.size : Int)) = true := decide_eq_true c3
    have c3b1 : decide (a1.size ≤ a0.size) = true := decide_eq_true (Int.ofNat_le.mp c3)
    clear c3
    by_cases c4 : 0 ≤ (a1.size : Int)
    · rw [if_pos c4] at H
      have c4b0 := eq_true c4
      have c4b1 : decide (0 ≤ (a1.size : Int)) = true := decide_eq_true c4
      clear c4
      by_cases c5 : (a1.size : Int) ≤ (a0.size : Int)
      · rw [if_pos c5] at H
        have c5b0 := eq_true c5
        have c5b1 : decide ((a1.size : Int) ≤ (a0.size : Int)) = true := decide_eq_true c5
        clear c5
        obtain rfl := Option.some.inj H
        go_enter Tryd.func42, Tryd.ntmps42
        go_wp2
        go_ret
        exact ⟨by first | rfl | (simp; done) | (simp [*]; done) | (simp; unfold wrap64; omega), by repeat (first | exact Drawn0.refl _ | apply Drawn0.step)⟩
      · rw [if_neg c5] at H
        exact absurd H (by simp)
    · rw [if_neg c4] at H
      exact absurd H (by simp)
  · rw [if_neg c3] at H
    have c3b0 : decide ((a1.size : Int) ≤ (a0.size : Int)) = false := decide_eq_false c3
    have c3b1 : decide (a1.size ≤ a0.size) = false := decide_eq_false (fun h => c3 (Int.ofNat_le.mpr h))
    clear c3
    obtain rfl := Option.some.inj H
    go_enter Tryd.func42, Tryd.ntmps42
    go_wp2
    go_ret
    exact ⟨by first | rfl | (simp; done) | (simp [*]; done) | (simp; unfold wrap64; omega), by repeat (first | exact Drawn0.refl _ | apply Drawn0.step)⟩

/-! ### strings_HasPrefix: function 28 -/
def strings_HasPrefix.f (a0 : ByteArray) (a1 : ByteArray) : Option (Bool) := (stringslite_HasPrefix.f a0 a1).bind fun t120 => (some t120)
set_option maxHeartbeats 8000000 in
set_option maxRecDepth 100000 in
theorem strings_HasPrefix.calls (a0 : ByteArray) (a1 : ByteArray) (r : Bool) (w : World) (h : strings_HasPrefix.f a0 a1 = some r) :
    Calls Tryd.prog 28 #[.string a0, .string a1] w fun e w' => e = .returned (.bool r) ∧ Drawn0 w w' := by
  have H : ((stringslite_HasPrefix.f a0 a1).bind fun t120 => (some t120)) = some r := h
  clear h
  replace H := Option.bind_eq_some_iff.mp H
  obtain ⟨t120, A30, H⟩ := H
  replace H : (some t120) = some r := H
  have A3 := Aside0.mk A30
  clear A30
  obtain rfl := Option.some.inj H
  go_enter Tryd.func28, Tryd.ntmps28
  go_wp2_with (first | ((with_reducible refine gate_callee (f := 42) rfl ?_); refine goesL_ (some 7) rfl rfl Tryd.func42 (by kernel_rfl) rfl #[.string a0, .string a1] rfl (by (try simp only [List.map_toArray, List.map_cons, List.map_nil]); first | done | rfl | (simp only [List.length_drop, List.length_take]; rfl)) ?_; (with_reducible refine (stringslite_HasPrefix.calls a0 a1 t120 _ A3.out).mono ?_); rintro e w' ⟨rfl, ⟨nd, rfl⟩⟩; refine ⟨_, rfl, ?_⟩))
  go_ret
  exact ⟨by first | rfl | (simp; done) | (simp [*]; done) | (simp; unfold wrap64; omega), by repeat (first | exact Drawn0.refl _ | apply Drawn0.step)⟩

/-! ### ascii_IsDigit: function 54 -/
def ascii_IsDigit.f (a0 : Int) : Option (Bool) := some (decide (((a0 - 48) % 256) < 10))
set_option maxHeartbeats 8000000 in
set_option maxRecDepth 100000 in
theorem ascii_IsDigit.calls (a0 : Int) (r : Bool) (w : World) (h : ascii_IsDigit.f a0 = some r) :
    Calls Tryd.prog 54 #[.int .u8 a0] w fun e w' => e = .returned (.bool r) ∧ Drawn0 w w' := by
  have H : (some (decide (((a0 - 48) % 256) < 10))) = some r := h
  clear h
  obtain rfl := Option.some.inj H
  go_enter Tryd.func54, Tryd.ntmps54
  go_wp2
  go_ret
  exact ⟨by first | rfl | (simp; done) | (simp [*]; done) | (simp; unfold wrap64; omega), by repeat (first | exact Drawn0.refl _ | apply Drawn0.step)⟩

/-! ### ascii_low: function 75 -/
def ascii_low.f (a0 : Int) : Option (Int) := if ((a0 - 65) % 256) < 26 then (some (Go.bits .or .u8 a0 32)) else (some a0)
set_option maxHeartbeats 8000000 in
set_option maxRecDepth 100000 in
theorem ascii_low.calls (a0 : Int) (r : Int) (w : World) (h : ascii_low.f a0 = some r) :
    Calls Tryd.prog 75 #[.int .u8 a0] w fun e w' => e = .returned (.int .u8 r) ∧ Drawn0 w w' := by
  have H : (if ((a0 - 65) % 256) < 26 then (some (Go.bits .or .u8 a0 32)) else (some a0)) = some r := h
  clear h
  by_cases c2 : ((a0 - 65) % 256) < 26
  · rw [if_pos c2] at H
    have c2b0 : decide (((a0 - 65) % 256) < 26) = true := decide_eq_true c2
    clear c2
    obtain rfl := Option.some.inj H
    go_enter Tryd.func75, Tryd.ntmps75
    go_wp2
    go_ret
    exact ⟨by first | rfl | (simp; done) | (simp [*]; done) | (simp; unfold wrap64; omega), by repeat (first | exact Drawn0.refl _ | apply Drawn0.step)⟩
  · rw [if_neg c2] at H
    have c2b0 : decide (((a0 - 65) % 256) < 26) = false := decide_eq_false c2
    clear c2
    obtain rfl := Option.some.inj H
    go_enter Tryd.func75, Tryd.ntmps75
    go_wp2
    go_ret
    exact ⟨by first | rfl | (simp; done) | (simp [*]; done) | (simp; unfold wrap64; omega), by repeat (first | exact Drawn0.refl _ | apply Drawn0.step)⟩

end Go.Proofs.YtekijemacjpceaaDoor.Q
