-- printed by a program of the session's own; Lean checks it
import Derived.Test.YtopaheopdpkjbaaDoorQ0
namespace Go.Proofs.YtopaheopdpkjbaaDoor.Q
open Go.RowKit Go.Proofs.YtopaheopdpkjbaaDoorW.PrintWords Go.Proofs.YtopaheopdpkjbaaDoorW.PrintLast Go.Proofs.YtopaheopdpkjbaaDoorW.PrintMore
attribute [local go_sem] max2_int min2_int max_two min_two max_three min_three max_four min_four   -- for this text's walks alone
set_option linter.unusedVariables false
set_option linter.unusedSimpArgs false

/-! ### cringlelaw03_long: function 9 -/
def cringlelaw03_long.f (a0 : ByteArray) : Option (Bool) := some (decide ((a0.size : Int) > 3000))
set_option maxHeartbeats 8000000 in
set_option maxRecDepth 100000 in
theorem cringlelaw03_long.calls (a0 : ByteArray) (r : Bool) (w : World) (h : cringlelaw03_long.f a0 = some r) :
    Calls Tryd.prog 9 #[.string a0] w fun e w' => e = .returned (.bool r) ∧ Drawn0 w w' := by
  have H : (some (decide ((a0.size : Int) > 3000))) = some r := h
  clear h
  obtain rfl := Option.some.inj H
  go_enter Tryd.func9, Tryd.ntmps9
  go_wp2
  go_ret
  exact ⟨by first | rfl | (simp; done) | (simp [*]; done) | (simp; unfold wrap64; omega), by repeat (first | exact Drawn0.refl _ | apply Drawn0.step)⟩

/-! ### strings_Count: function 37 -/
def strings_Count.f (a0 : ByteArray) (a1 : ByteArray) : Option (Int) := if a1.size = 1 then (some (((Lib.countByte a0.data.toList (a1.data.toList.getD 0 0) : Nat) : Int))) else (none)
theorem strings_Count.calls (a0 : ByteArray) (a1 : ByteArray) (r : Int) (w : World) (h : strings_Count.f a0 a1 = some r) :
    Calls Tryd.prog 37 #[.string a0, .string a1] w fun e w' => e = .returned (.int .i64 r) ∧ Drawn0 w w' := by
  unfold strings_Count.f at h
  by_cases h1 : a1.size = 1
  case neg => rw [if_neg h1] at h; cases h
  rw [if_pos h1] at h
  obtain rfl := Option.some.inj h
  obtain ⟨c, rfl⟩ : ∃ c : UInt8, a1 = ⟨#[c]⟩ := by
    obtain ⟨⟨l⟩⟩ := a1
    rcases l with _ | ⟨c, _ | ⟨d, l⟩⟩
    · simp [ByteArray.size] at h1
    · exact ⟨c, rfl⟩
    · simp [ByteArray.size] at h1
  refine (Tryd.strings_Count_one a0 c w).mono ?_
  rintro e w' ⟨rfl, rfl⟩
  exact ⟨rfl, Drawn0.refl _⟩

/-! ### strings_Split: function 38 -/
def strings_Split.f (a0 : ByteArray) (a1 : ByteArray) : Option (List ByteArray) := if a0.size < 4294967281 then (if 1 ≤ a1.size then (some (Lib.splitB a1 0 (Lib.countB a0 a1) a0)) else (none)) else (none)
theorem strings_Split.calls (a0 : ByteArray) (a1 : ByteArray) (r : List ByteArray) (w : World) (h : strings_Split.f a0 a1 = some r) (TT_ : Aside0 (Go.Proofs.YtopaheopdpkjbaaDoor.Tabs w) := by first | exact TT_ | exact ⟨Go.Proofs.YtopaheopdpkjbaaDoor.Tabs.below TT_.out (by repeat (first | (with_reducible first | exact HB.out | apply below_alloc | apply pw_below_drewN | apply below_drew1) | exact HB.out | (refine below_set ?_ ?_; rotate_left; exact (Aside0.out (by assumption)))))⟩) :
    Calls Tryd.prog 38 #[.string a0, .string a1] w fun e w' => ∃ v0_ : Value, e = .returned (v0_) ∧ Kd.R Kd.string 9 w' w.heap.size (fun _ => True) v0_ r ∧ Below w.heap.size w w' := by
  unfold strings_Split.f at h
  by_cases h1 : a0.size < 4294967281
  case neg => rw [if_neg h1] at h; cases h
  by_cases h2 : 1 ≤ a1.size
  case neg => rw [if_pos h1, if_neg h2] at h; cases h
  rw [if_pos h1, if_pos h2] at h
  obtain rfl := Option.some.inj h
  obtain ⟨m, hm⟩ := TT_.out.mx
  refine (Tryd.strings_Split a0 a1 m w h1 hm h2).mono ?_
  rintro e w' ⟨rfl, rfl⟩
  have hlen := Lib.splitB_all a1 h2 0 _ a0 rfl
  have hle := Lib.countB_le a1 h2 a0.size a0 (Nat.le_refl _)
  refine ⟨_, rfl, ?_, below_alloc (Below.refl _ _) _⟩
  generalize Lib.splitB a1 0 (Lib.countB a0 a1) a0 = xs at *
  rw [← hlen]
  refine Kd.R_of_own ⟨by simp [encs], .inr ⟨w.heap.size, _, _, rfl, Nat.le_refl _, heap_new w _ rfl, Nat.le_refl _, ?_, ?_, ?_⟩⟩ (fun _ _ => trivial)
  · unfold maxLen; omega
  · simp
  · simp [encs, List.take_of_length_le]

/-! ### strings_Cut: function 39 -/
def strings_Cut.f (a0 : ByteArray) (a1 : ByteArray) : Option (ByteArray × ByteArray × Bool) := if a0.size < 4294967281 then (some ((⟨(Lib.cut a0.data.toList a1.data.toList).1.toArray⟩ : ByteArray), (⟨(Lib.cut a0.data.toList a1.data.toList).2.1.toArray⟩ : ByteArray), (Lib.cut a0.data.toList a1.data.toList).2.2)) else (none)
theorem strings_Cut.calls (a0 : ByteArray) (a1 : ByteArray) (r1 : ByteArray) (r2 : ByteArray) (r3 : Bool) (w : World) (h : strings_Cut.f a0 a1 = some (r1, r2, r3)) (TT_ : Aside0 (Go.Proofs.YtopaheopdpkjbaaDoor.Tabs w) := by first | exact TT_ | exact ⟨Go.Proofs.YtopaheopdpkjbaaDoor.Tabs.below TT_.out (by repeat (first | (with_reducible first | exact HB.out | apply below_alloc | apply pw_below_drewN | apply below_drew1) | exact HB.out | (refine below_set ?_ ?_; rotate_left; exact (Aside0.out (by assumption)))))⟩) :
    Calls Tryd.prog 39 #[.string a0, .string a1] w fun e w' => e = .returned (.tuple #[.string r1, .string r2, .bool r3]) ∧ Below w.heap.size w w' := by
  unfold strings_Cut.f at h
  by_cases hs : a0.size < 4294967281
  case neg => rw [if_neg hs] at h; cases h
  rw [if_pos hs] at h
  obtain ⟨rfl, h2⟩ := Prod.mk.inj (Option.some.inj h)
  obtain ⟨rfl, rfl⟩ := Prod.mk.inj h2
  obtain ⟨m, hm⟩ := TT_.out.mx
  refine (Tryd.strings_Cut a0 a1 m w hs hm).mono ?_
  rintro e w' ⟨rfl, q, rfl⟩
  exact ⟨rfl, pw_below_drewN (Below.refl _ _) q⟩

/-! ### ascii_IsDigit: function 49 -/
def ascii_IsDigit.f (a0 : Int) : Option (Bool) := some (decide (((a0 - 48) % 256) < 10))
set_option maxHeartbeats 8000000 in
set_option maxRecDepth 100000 in
theorem ascii_IsDigit.calls (a0 : Int) (r : Bool) (w : World) (h : ascii_IsDigit.f a0 = some r) :
    Calls Tryd.prog 49 #[.int .u8 a0] w fun e w' => e = .returned (.bool r) ∧ Drawn0 w w' := by
  have H : (some (decide (((a0 - 48) % 256) < 10))) = some r := h
  clear h
  obtain rfl := Option.some.inj H
  go_enter Tryd.func49, Tryd.ntmps49
  go_wp2
  go_ret
  exact ⟨by first | rfl | (simp; done) | (simp [*]; done) | (simp; unfold wrap64; omega), by repeat (first | exact Drawn0.refl _ | apply Drawn0.step)⟩

/-! ### ascii_low: function 72 -/
def ascii_low.f (a0 : Int) : Option (Int) := if ((a0 - 65) % 256) < 26 then (some (Go.bits .or .u8 a0 32)) else (some a0)
set_option maxHeartbeats 8000000 in
set_option maxRecDepth 100000 in
theorem ascii_low.calls (a0 : Int) (r : Int) (w : World) (h : ascii_low.f a0 = some r) :
    Calls Tryd.prog 72 #[.int .u8 a0] w fun e w' => e = .returned (.int .u8 r) ∧ Drawn0 w w' := by
  have H : (if ((a0 - 65) % 256) < 26 then (some (Go.bits .or .u8 a0 32)) else (some a0)) = some r := h
  clear h
  by_cases c2 : ((a0 - 65) % 256) < 26
  · rw [if_pos c2] at H
    have c2b0 : decide (((a0 - 65) % 256) < 26) = true := decide_eq_true c2
    clear c2
    obtain rfl := Option.some.inj H
    go_enter Tryd.func72, Tryd.ntmps72
    go_wp2
    go_ret
    exact ⟨by first | rfl | (simp; done) | (simp [*]; done) | (simp; unfold wrap64; omega), by repeat (first | exact Drawn0.refl _ | apply Drawn0.step)⟩
  · rw [if_neg c2] at H
    have c2b0 : decide (((a0 - 65) % 256) < 26) = false := decide_eq_false c2
    clear c2
    obtain rfl := Option.some.inj H
    go_enter Tryd.func72, Tryd.ntmps72
    go_wp2
    go_ret
    exact ⟨by first | rfl | (simp; done) | (simp [*]; done) | (simp; unfold wrap64; omega), by repeat (first | exact Drawn0.refl _ | apply Drawn0.step)⟩

/-! ### ascii_nibble: function 54 -/
def ascii_nibble.f (a0 : Int) : Option (Int × Bool) := (ascii_low.f a0).bind fun t101 => ((ascii_IsDigit.f t101).bind fun t102 => (if t102 = true then (some ((t101 - 48) % 256, true)) else (if ((t101 - 97) % 256) < 6 then (some (((t101 - 97) % 256) + 10, true)) else (some (0, false)))))
set_option maxHeartbeats 8000000 in
set_option maxRecDepth 100000 in
theorem ascii_nibble.calls (a0 : Int) (r1 : Int) (r2 : Bool) (w : World) (h : ascii_nibble.f a0 = some (r1, r2)) :
    Calls Tryd.prog 54 #[.int .u8 a0] w fun e w' => e = .returned (.tuple #[.int .u32 r1, .bool r2]) ∧ Drawn0 w w' := by
  have H : ((ascii_low.f a0).bind fun t101 => ((ascii_IsDigit.f t101).bind fun t102 => (if t102 = true then (some ((t101 - 48) % 256, true)) else (if ((t101 - 97) % 256) < 6 then (some (((t101 - 97) % 256) + 10, true)) else (some (0, false)))))) = some (r1, r2) := h
  clear h
  replace H := Option.bind_eq_some_iff.mp H
  obtain ⟨t101, A20, H⟩ := H
  replace H : ((ascii_IsDigit.f t101).bind fun t102 => (if t102 = true then (some ((t101 - 48) % 256, true)) else (if ((t101 - 97) % 256) < 6 then (some (((t101 - 97) % 256) + 10, true)) else (some (0, false))))) = some (r1, r2) := H
  have A2 := Aside0.mk A20
  clear A20
  replace H := Option.bind_eq_some_iff.mp H
  obtain ⟨t102, A30, H⟩ := H
  replace H : (if t102 = true then (some ((t101 - 48) % 256, true)) else (if ((t101 - 97) % 256) < 6 then (some (((t101 - 97) % 256) + 10, true)) else (some (0, false)))) = some (r1, r2) := H
  have A3 := Aside0.mk A30
  clear A30
  by_cases c4 : t102 = true
  · subst c4
    have H1 : (some ((t101 - 48) % 256, true)) = some (r1, r2) := by rw [if_pos rfl] at H; exact H
    clear H
    have H := H1
    clear H1
    simp only [Option.some.injEq, Prod.mk.injEq] at H
    obtain ⟨rfl, rfl⟩ := H
    go_enter Tryd.func54, Tryd.ntmps54
    go_wp2_with (first | ((with_reducible refine gate_callee (f := 72) rfl ?_); refine goesL_ (some 5) rfl rfl Tryd.func72 (by kernel_rfl) rfl #[.int .u8 a0] rfl (by (try simp only [List.map_toArray, List.map_cons, List.map_nil]); first | done | rfl | (simp only [List.length_drop, List.length_take]; rfl)) ?_; (with_reducible refine (ascii_low.calls a0 t101 _ A2.out).mono ?_); rintro e w' ⟨rfl, ⟨nd, rfl⟩⟩; refine ⟨_, rfl, ?_⟩) | ((with_reducible refine gate_callee (f := 49) rfl ?_); refine goesL_ (some 8) rfl rfl Tryd.func49 (by kernel_rfl) rfl #[.int .u8 t101] rfl (by (try simp only [List.map_toArray, List.map_cons, List.map_nil]); first | done | rfl | (simp only [List.length_drop, List.length_take]; rfl)) ?_; (with_reducible refine (ascii_IsDigit.calls t101 true _ A3.out).mono ?_); rintro e w' ⟨rfl, ⟨nd, rfl⟩⟩; refine ⟨_, rfl, ?_⟩))
    go_ret2
    exact ⟨by first | rfl | (simp; done) | (simp [*]; done) | (simp; unfold wrap64; omega), by repeat (first | exact Drawn0.refl _ | apply Drawn0.step)⟩
  · replace c4 := Bool.eq_false_iff.mpr c4
    subst c4
    have H1 : (if ((t101 - 97) % 256) < 6 then (some (((t101 - 97) % 256) + 10, true)) else (some (0, false))) = some (r1, r2) := by rw [if_neg (show ¬ (false = true) by decide)] at H; exact H
    clear H
    have H := H1
    clear H1
    by_cases c5 : ((t101 - 97) % 256) < 6
    · rw [if_pos c5] at H
      have c5b0 : decide (((t101 - 97) % 256) < 6) = true := decide_eq_true c5
      clear c5
      simp only [Option.some.injEq, Prod.mk.injEq] at H
      obtain ⟨rfl, rfl⟩ := H
      go_enter Tryd.func54, Tryd.ntmps54
      go_wp2_with (first | ((with_reducible refine gate_callee (f := 72) rfl ?_); refine goesL_ (some 5) rfl rfl Tryd.func72 (by kernel_rfl) rfl #[.int .u8 a0] rfl (by (try simp only [List.map_toArray, List.map_cons, List.map_nil]); first | done | rfl | (simp only [List.length_drop, List.length_take]; rfl)) ?_; (with_reducible refine (ascii_low.calls a0 t101 _ A2.out).mono ?_); rintro e w' ⟨rfl, ⟨nd, rfl⟩⟩; refine ⟨_, rfl, ?_⟩) | ((with_reducible refine gate_callee (f := 49) rfl ?_); refine goesL_ (some 8) rfl rfl Tryd.func49 (by kernel_rfl) rfl #[.int .u8 t101] rfl (by (try simp only [List.map_toArray, List.map_cons, List.map_nil]); first | done | rfl | (simp only [List.length_drop, List.length_take]; rfl)) ?_; (with_reducible refine (ascii_IsDigit.calls t101 false _ A3.out).mono ?_); rintro e w' ⟨rfl, ⟨nd, rfl⟩⟩; refine ⟨_, rfl, ?_⟩))
      go_ret2
      exact ⟨by first | rfl | (simp; done) | (simp [*]; done) | (simp; unfold wrap64; omega), by repeat (first | exact Drawn0.refl _ | apply Drawn0.step)⟩
    · rw [if_neg c5] at H
      have c5b0 : decide (((t101 - 97) % 256) < 6) = false := decide_eq_false c5
      clear c5
      simp only [Option.some.injEq, Prod.mk.injEq] at H
      obtain ⟨rfl, rfl⟩ := H
      go_enter Tryd.func54, Tryd.ntmps54
      go_wp2_with (first | ((with_reducible refine gate_callee (f := 72) rfl ?_); refine goesL_ (some 5) rfl rfl Tryd.func72 (by kernel_rfl) rfl #[.int .u8 a0] rfl (by (try simp only [List.map_toArray, List.map_cons, List.map_nil]); first | done | rfl | (simp only [List.length_drop, List.length_take]; rfl)) ?_; (with_reducible refine (ascii_low.calls a0 t101 _ A2.out).mono ?_); rintro e w' ⟨rfl, ⟨nd, rfl⟩⟩; refine ⟨_, rfl, ?_⟩) | ((with_reducible refine gate_callee (f := 49) rfl ?_); refine goesL_ (some 8) rfl rfl Tryd.func49 (by kernel_rfl) rfl #[.int .u8 t101] rfl (by (try simp only [List.map_toArray, List.map_cons, List.map_nil]); first | done | rfl | (simp only [List.length_drop, List.length_take]; rfl)) ?_; (with_reducible refine (ascii_IsDigit.calls t101 false _ A3.out).mono ?_); rintro e w' ⟨rfl, ⟨nd, rfl⟩⟩; refine ⟨_, rfl, ?_⟩))
      go_ret2
      exact ⟨by first | rfl | (simp; done) | (simp [*]; done) | (simp; unfold wrap64; omega), by repeat (first | exact Drawn0.refl _ | apply Drawn0.step)⟩

/-! ### ascii_Hex: function 35 -/
def ascii_Hex.l0 : Nat → ByteArray → Int → Bool → Int → Int → Option (Int × Int)
  | 0, _, _, _, _, _ => none
  | k + 1, x0, x4, x5, x12, x13 => if x13 < x12 then (if 0 ≤ x13 then (if x13 < (x0.size : Int) then ((ascii_nibble.f (bt x0 x13)).bind fun bt103 => (if bt103.2 = true then (if x5 = true then (ascii_Hex.l0 k x0 (Go.bits .or .u32 ((x4 * 16) % 4294967296) bt103.1) true x12 (wrap64 (x13 + 1))) else (ascii_Hex.l0 k x0 (Go.bits .or .u32 ((x4 * 16) % 4294967296) bt103.1) ((x4 / 268435456) != 0) x12 (wrap64 (x13 + 1)))) else (some (0, 3)))) else (none)) else (none)) else (if x5 = true then (some (0, 5)) else (some (x4, 0)))
def ascii_Hex.f (k : Nat) (a0 : ByteArray) : Option (Int × Int) := if a0.toList = ([] : List UInt8) then (some (0, 3)) else (ascii_Hex.l0 k a0 0 false (a0.size : Int) 0)
theorem ascii_Hex.mono_l : ∀ k, (∀ y0 y1 y2 y3 y4, LeO (ascii_Hex.l0 k y0 y1 y2 y3 y4) (ascii_Hex.l0 (k + 1) y0 y1 y2 y3 y4))
  | 0 => fun _ _ _ _ _ r h => by simp [ascii_Hex.l0] at h
  | k + 1 => by
    have ih0 := ascii_Hex.mono_l k
    · intro y0 y1 y2 y3 y4
      unfold ascii_Hex.l0
      repeat' first
      | (with_reducible exact ih0 _ _ _ _ _)
      | (with_reducible exact LeO.refl _)
      | (with_reducible exact LeO.none _)
      | (with_reducible refine LeO.ite ?_ ?_)
      | (with_reducible refine LeO.bind ?_ (fun _ => ?_))
      | exact ih0 _ _ _ _ _
      | exact LeO.none _
      | refine LeO.ite ?_ ?_
      | refine LeO.bind ?_ (fun _ => ?_)
theorem ascii_Hex.mono : ∀ a0 k, LeO (ascii_Hex.f k a0) (ascii_Hex.f (k + 1) a0) := by
  intro a0 k
  have ih0 := ascii_Hex.mono_l k
  unfold ascii_Hex.f
  repeat' first
      | (with_reducible exact ih0 _ _ _ _ _)
      | (with_reducible exact LeO.refl _)
      | (with_reducible exact LeO.none _)
      | (with_reducible refine LeO.ite ?_ ?_)
      | (with_reducible refine LeO.bind ?_ (fun _ => ?_))
      | exact ih0 _ _ _ _ _
      | exact LeO.none _
      | refine LeO.ite ?_ ?_
      | refine LeO.bind ?_ (fun _ => ?_)
set_option maxHeartbeats 8000000 in
set_option maxRecDepth 100000 in
theorem ascii_Hex.calls (k : Nat) (a0 : ByteArray) (r1 : Int) (r2 : Int) (w : World) (h : ascii_Hex.f k a0 = some (r1, r2)) :
    Calls Tryd.prog 35 #[.string a0] w fun e w' => e = .returned (.tuple #[.int .u32 r1, .int .i64 r2]) ∧ Drawn0 w w' := by
  have H : (if a0.toList = ([] : List UInt8) then (some (0, 3)) else (ascii_Hex.l0 k a0 0 false (a0.size : Int) 0)) = some (r1, r2) := h
  clear h
  by_cases c2 : a0.toList = ([] : List UInt8)
  · rw [if_pos c2] at H
    have c2b0 : (a0.toList == ([] : List UInt8)) = true := beq_iff_eq.mpr c2
    have c2b1 : (a0.toList != ([] : List UInt8)) = false := bne_eq_false_iff_eq.mpr c2
    clear c2
    simp only [Option.some.injEq, Prod.mk.injEq] at H
    obtain ⟨rfl, rfl⟩ := H
    go_enter Tryd.func35, Tryd.ntmps35
    go_wp2
    go_ret2
    exact ⟨by first | rfl | (simp; done) | (simp [*]; done) | (simp; unfold wrap64; omega), by repeat (first | exact Drawn0.refl _ | apply Drawn0.step)⟩
  · rw [if_neg c2] at H
    have c2b0 : (a0.toList == ([] : List UInt8)) = false := beq_eq_false_iff_ne.mpr c2
    have c2b1 : (a0.toList != ([] : List UInt8)) = true := bne_iff_ne.mpr c2
    have H' := Aside0.mk H
    clear H
    go_enter Tryd.func35, Tryd.ntmps35
    go_wp2
    go_loopg [4, 5, 13] k (fun kq v4 v5 v13 w' => ∃ (x4_1 : Int) (x5_1 : Bool) (x13_1 : Int), v4 = .int .u32 x4_1 ∧ v5 = .bool x5_1 ∧ v13 = .int .i64 x13_1 ∧ Aside0 (ascii_Hex.l0 kq a0 x4_1 x5_1 (a0.size : Int) x13_1 = some (r1, r2)) ∧ Aside0 (kq ≤ k) ∧ Drawn0 w w')
    case atStart => exact ⟨(0), (false), (0), (by first | rfl | (simp; done) | (simp [*]; done) | (simp; unfold wrap64; omega)), (by first | rfl | (simp; done) | (simp [*]; done) | (simp; unfold wrap64; omega)), (by first | rfl | (simp; done) | (simp [*]; done) | (simp; unfold wrap64; omega)), H', ⟨Nat.le_refl _⟩, by repeat (first | exact Drawn0.refl _ | apply Drawn0.step)⟩
    case round =>
      clear H'
      try clear c2
      try clear c2b0
      try clear c2b1
      try clear p2
      obtain ⟨x4_1, x5_1, x13_1, rfl, rfl, rfl, HA, HK1, ⟨m1, rfl⟩⟩ := hrel
      cases gk with
      | zero => exact absurd HA.out (by simp [ascii_Hex.l0])
      | succ k1 =>
        have H := HA.out
        clear HA
        simp only [ascii_Hex.l0] at H
        by_cases c3 : x13_1 < (a0.size : Int)
        · rw [if_pos c3] at H
          have c3b0 : decide (x13_1 < (a0.size : Int)) = true := decide_eq_true c3
          clear c3
          by_cases c4 : 0 ≤ x13_1
          · rw [if_pos c4] at H
            have c4b0 : decide (0 ≤ x13_1) = true := decide_eq_true c4
            clear c4
            by_cases c5 : x13_1 < (a0.size : Int)
            · rw [if_pos c5] at H
              have c5b0 : decide (x13_1 < (a0.size : Int)) = true := decide_eq_true c5
              clear c5
              replace H := Option.bind_eq_some_iff.mp H
              obtain ⟨⟨t103, t104⟩, A70, H⟩ := H
              replace H : (if t104 = true then (if x5_1 = true then (ascii_Hex.l0 k1 a0 (Go.bits .or .u32 ((x4_1 * 16) % 4294967296) t103) true (a0.size : Int) (wrap64 (x13_1 + 1))) else (ascii_Hex.l0 k1 a0 (Go.bits .or .u32 ((x4_1 * 16) % 4294967296) t103) ((x4_1 / 268435456) != 0) (a0.size : Int) (wrap64 (x13_1 + 1)))) else (some (0, 3))) = some (r1, r2) := H
              have A7 := Aside0.mk A70
              clear A70
              by_cases c8 : t104 = true
              · subst c8
                have H1 : (if x5_1 = true then (ascii_Hex.l0 k1 a0 (Go.bits .or .u32 ((x4_1 * 16) % 4294967296) t103) true (a0.size : Int) (wrap64 (x13_1 + 1))) else (ascii_Hex.l0 k1 a0 (Go.bits .or .u32 ((x4_1 * 16) % 4294967296) t103) ((x4_1 / 268435456) != 0) (a0.size : Int) (wrap64 (x13_1 + 1)))) = some (r1, r2) := by rw [if_pos rfl] at H; exact H
                clear H
                have H := H1
                clear H1
                by_cases c9 : x5_1 = true
                · subst c9
                  have H1 : (ascii_Hex.l0 k1 a0 (Go.bits .or .u32 ((x4_1 * 16) % 4294967296) t103) true (a0.size : Int) (wrap64 (x13_1 + 1))) = some (r1, r2) := by rw [if_pos rfl] at H; exact H
                  clear H
                  have H := H1
                  clear H1
                  have H' := Aside0.mk H
                  clear H
                  have p6 : 0 ≤ (x13_1 : Int) := of_decide_eq_true (by first | (with_reducible assumption) | assumption)
                  have q6 : x13_1 < (a0.size : Int) := of_decide_eq_true (by first | (with_reducible assumption) | assumption)
                  have hx6 := bt_at a0 x13_1
                  replace p6 := eq_true p6
                  replace q6 := eq_true q6
                  go_wp2_with (first | ((with_reducible refine gate_callee (f := 54) rfl ?_); refine goesL_ (some 20) rfl rfl Tryd.func54 (by kernel_rfl) rfl #[.int .u8 (bt a0 x13_1)] rfl (by (try simp only [List.map_toArray, List.map_cons, List.map_nil]); first | done | rfl | (simp only [List.length_drop, List.length_take]; rfl)) ?_; (with_reducible refine (ascii_nibble.calls (bt a0 x13_1) t103 true _ A7.out).mono ?_); rintro e w' ⟨rfl, ⟨nd, rfl⟩⟩; refine ⟨_, rfl, ?_⟩))
                  go_roundg k1
                  case measure => have := HK1.out; omega
                  case rel => exact ⟨(Go.bits .or .u32 ((x4_1 * 16) % 4294967296) t103), (true), (wrap64 (x13_1 + 1)), (by first | rfl | (simp; done) | (simp [*]; done) | (simp; unfold wrap64; omega)), (by first | rfl | (simp; done) | (simp [*]; done) | (simp; unfold wrap64; omega)), (by first | rfl | (simp; done) | (simp [*]; done) | (simp; unfold wrap64; omega)), H', ⟨by have := HK1.out; omega⟩, by repeat (first | exact Drawn0.refl _ | apply Drawn0.step)⟩
                · replace c9 := Bool.eq_false_iff.mpr c9
                  subst c9
                  have H1 : (ascii_Hex.l0 k1 a0 (Go.bits .or .u32 ((x4_1 * 16) % 4294967296) t103) ((x4_1 / 268435456) != 0) (a0.size : Int) (wrap64 (x13_1 + 1))) = some (r1, r2) := by rw [if_neg (show ¬ (false = true) by decide)] at H; exact H
                  clear H
                  have H := H1
                  clear H1
                  have H' := Aside0.mk H
                  clear H
                  have p6 : 0 ≤ (x13_1 : Int) := of_decide_eq_true (by first | (with_reducible assumption) | assumption)
                  have q6 : x13_1 < (a0.size : Int) := of_decide_eq_true (by first | (with_reducible assumption) | assumption)
                  have hx6 := bt_at a0 x13_1
                  replace p6 := eq_true p6
                  replace q6 := eq_true q6
                  go_wp2_with (first | ((with_reducible refine gate_callee (f := 54) rfl ?_); refine goesL_ (some 20) rfl rfl Tryd.func54 (by kernel_rfl) rfl #[.int .u8 (bt a0 x13_1)] rfl (by (try simp only [List.map_toArray, List.map_cons, List.map_nil]); first | done | rfl | (simp only [List.length_drop, List.length_take]; rfl)) ?_; (with_reducible refine (ascii_nibble.calls (bt a0 x13_1) t103 true _ A7.out).mono ?_); rintro e w' ⟨rfl, ⟨nd, rfl⟩⟩; refine ⟨_, rfl, ?_⟩))
                  go_roundg k1
                  case measure => have := HK1.out; omega
                  case rel => exact ⟨(Go.bits .or .u32 ((x4_1 * 16) % 4294967296) t103), (((x4_1 / 268435456) != 0)), (wrap64 (x13_1 + 1)), (by first | rfl | (simp; done) | (simp [*]; done) | (simp; unfold wrap64; omega)), (by first | rfl | (simp; done) | (simp [*]; done) | (simp; unfold wrap64; omega)), (by first | rfl | (simp; done) | (simp [*]; done) | (simp; unfold wrap64; omega)), H', ⟨by have := HK1.out; omega⟩, by repeat (first | exact Drawn0.refl _ | apply Drawn0.step)⟩
              · replace c8 := Bool.eq_false_iff.mpr c8
                subst c8
                have H1 : (some (0, 3)) = some (r1, r2) := by rw [if_neg (show ¬ (false = true) by decide)] at H; exact H
                clear H
                have H := H1
                clear H1
                simp only [Option.some.injEq, Prod.mk.injEq] at H
                obtain ⟨rfl, rfl⟩ := H
                have p6 : 0 ≤ (x13_1 : Int) := of_decide_eq_true (by first | (with_reducible assumption) | assumption)
                have q6 : x13_1 < (a0.size : Int) := of_decide_eq_true (by first | (with_reducible assumption) | assumption)
                have hx6 := bt_at a0 x13_1
                replace p6 := eq_true p6
                replace q6 := eq_true q6
                go_wp2_with (first | ((with_reducible refine gate_callee (f := 54) rfl ?_); refine goesL_ (some 20) rfl rfl Tryd.func54 (by kernel_rfl) rfl #[.int .u8 (bt a0 x13_1)] rfl (by (try simp only [List.map_toArray, List.map_cons, List.map_nil]); first | done | rfl | (simp only [List.length_drop, List.length_take]; rfl)) ?_; (with_reducible refine (ascii_nibble.calls (bt a0 x13_1) t103 false _ A7.out).mono ?_); rintro e w' ⟨rfl, ⟨nd, rfl⟩⟩; refine ⟨_, rfl, ?_⟩))
                go_ret2
                exact ⟨by first | rfl | (simp; done) | (simp [*]; done) | (simp; unfold wrap64; omega), by repeat (first | exact Drawn0.refl _ | apply Drawn0.step)⟩
            · rw [if_neg c5] at H
              exact absurd H (by simp)
          · rw [if_neg c4] at H
            exact absurd H (by simp)
        · rw [if_neg c3] at H
          have c3b0 : decide (x13_1 < (a0.size : Int)) = false := decide_eq_false c3
          clear c3
          by_cases c10 : x5_1 = true
          · subst c10
            have H1 : (some (0, 5)) = some (r1, r2) := by rw [if_pos rfl] at H; exact H
            clear H
            have H := H1
            clear H1
            simp only [Option.some.injEq, Prod.mk.injEq] at H
            obtain ⟨rfl, rfl⟩ := H
            go_wp2
            go_ret2
            exact ⟨by first | rfl | (simp; done) | (simp [*]; done) | (simp; unfold wrap64; omega), by repeat (first | exact Drawn0.refl _ | apply Drawn0.step)⟩
          · replace c10 := Bool.eq_false_iff.mpr c10
            subst c10
            have H1 : (some (x4_1, 0)) = some (r1, r2) := by rw [if_neg (show ¬ (false = true) by decide)] at H; exact H
            clear H
            have H := H1
            clear H1
            simp only [Option.some.injEq, Prod.mk.injEq] at H
            obtain ⟨rfl, rfl⟩ := H
            go_wp2
            go_ret2
            exact ⟨by first | rfl | (simp; done) | (simp [*]; done) | (simp; unfold wrap64; omega), by repeat (first | exact Drawn0.refl _ | apply Drawn0.step)⟩

/-! ### percent_Unmark: function 13 -/
def percent_Unmark.l0 : Nat → ByteArray → List UInt8 → Option (ByteArray)
  | 0, _, _ => none
  | k + 1, s, acc => if s.toList = ([] : List UInt8) then some ⟨acc.toArray⟩ else (if s.data.toList.getD 0 0 = 37 then (if 2 < s.size then ((ascii_Hex.f k (s.extract 1 3)).bind fun t => (if t.2 = 0 then percent_Unmark.l0 k (s.extract 3 s.size) (acc ++ [(t.1 % 256).toNat.toUInt8]) else percent_Unmark.l0 k (s.extract 1 s.size) (acc ++ [s.data.toList.getD 0 0]))) else percent_Unmark.l0 k (s.extract 1 s.size) (acc ++ [s.data.toList.getD 0 0])) else percent_Unmark.l0 k (s.extract 1 s.size) (acc ++ [s.data.toList.getD 0 0]))
def percent_Unmark.f (k : Nat) (a0 : ByteArray) : Option (ByteArray) := if a0.size ≤ 1000000000 then percent_Unmark.l0 k a0 [] else none
theorem percent_Unmark.mono_l : ∀ k, (∀ y0 y1, LeO (percent_Unmark.l0 k y0 y1) (percent_Unmark.l0 (k + 1) y0 y1))
  | 0 => fun _ _ r h => by simp [percent_Unmark.l0] at h
  | k + 1 => by
    have ih0 := percent_Unmark.mono_l k
    · intro y0 y1
      unfold percent_Unmark.l0
      repeat' first
      | (with_reducible exact ih0 _ _)
      | (with_reducible exact ascii_Hex.mono _ _)
      | (with_reducible exact LeO.refl _)
      | (with_reducible exact LeO.none _)
      | (with_reducible refine LeO.ite ?_ ?_)
      | (with_reducible refine LeO.bind ?_ (fun _ => ?_))
theorem percent_Unmark.mono : ∀ a0 k, LeO (percent_Unmark.f k a0) (percent_Unmark.f (k + 1) a0) := by
  intro a0 k
  unfold percent_Unmark.f
  refine LeO.ite ?_ (LeO.refl _)
  exact percent_Unmark.mono_l k _ _
theorem percent_Unmark.byte (s : ByteArray) (h : 0 < s.size) : s.data.toList.getD 0 0 = s[0]'h := by
  have h' : 0 < s.data.toList.length := h
  rw [List.getD_eq_getElem?_getD, List.getElem?_eq_getElem h']
  rfl
theorem percent_Unmark.pos (s : ByteArray) (h : ¬ s.toList = ([] : List UInt8)) : 0 < s.size := by
  rcases Nat.eq_zero_or_pos s.size with h0 | h0
  · exfalso
    apply h
    rw [Lib.toList_data]
    exact List.length_eq_zero_iff.1 (by rw [Array.length_toList]; exact h0)
  · exact h0
set_option maxHeartbeats 2000000 in
set_option maxRecDepth 100000 in
theorem percent_Unmark.calls (k : Nat) (a0 : ByteArray) (r : ByteArray) (w : World) (h : percent_Unmark.f k a0 = some r) :
    Calls Tryd.prog 13 #[.string a0] w fun e w' => e = .returned (.string r) ∧ Below w.heap.size w w' := by
  unfold percent_Unmark.f at h
  by_cases hmax : a0.size ≤ 1000000000
  case neg => rw [if_neg hmax] at h; cases h
  rw [if_pos hmax] at h
  have H' := Aside0.mk h
  clear h
  go_enter Tryd.func13, Tryd.ntmps13
  go_wp2
  go_loopg [0] k (fun kq v0 w' => ∃ (x0 : ByteArray) (acc : List UInt8), v0 = .string x0 ∧ Aside0 (percent_Unmark.l0 kq x0 acc = some r) ∧ Aside0 (kq ≤ k) ∧ Aside0 (acc.length + x0.size ≤ 1000000000) ∧ Aside0 (Go.Proofs.YtopaheopdpkjbaaDoor.Build.Holds w.heap.size w.heap.size acc w') ∧ Aside0 (Below w.heap.size w w'))
  case atStart => exact ⟨a0, [], rfl, H', ⟨Nat.le_refl _⟩, ⟨by simpa using hmax⟩, ⟨Go.Proofs.YtopaheopdpkjbaaDoor.Build.Holds.new w⟩, ⟨below_alloc (Below.refl _ _) _⟩⟩
  case round =>
    clear H'
    obtain ⟨s, acc, rfl, HA, HK, HL, HI, HB⟩ := hrel
    cases gk with
    | zero => exact absurd HA.out (by simp [percent_Unmark.l0])
    | succ k1 =>
      have H := HA.out
      clear HA
      simp only [percent_Unmark.l0] at H
      by_cases c1 : s.toList = ([] : List UInt8)
      · rw [if_pos c1] at H
        obtain rfl := Option.some.inj H
        have c1b0 : (s.toList == ([] : List UInt8)) = true := beq_iff_eq.mpr c1
        have c1b1 : (s.toList != ([] : List UInt8)) = false := bne_eq_false_iff_eq.mpr c1
        clear c1
        go_wp2_with fail
        refine (Go.Proofs.YtopaheopdpkjbaaDoor.Build.told _ _ _ _ HI.out).mono ?_
        rintro e w' ⟨rfl, hbw⟩
        go_wp2_with fail
        go_ret
        exact ⟨rfl, HB.out.trans hbw⟩
      · rw [if_neg c1] at H
        have hpos := percent_Unmark.pos s c1
        have c1b0 : (s.toList == ([] : List UInt8)) = false := beq_eq_false_iff_ne.mpr c1
        have c1b1 : (s.toList != ([] : List UInt8)) = true := bne_iff_ne.mpr c1
        clear c1
        rw [percent_Unmark.byte s hpos] at H
        have hp1 : (0 : Int) < (s.size : Int) := by omega
        have hp1b := eq_true hp1
        have hp2 : (1 : Int) ≤ (s.size : Int) := by omega
        have hp2b := eq_true hp2
        by_cases c2 : s[0]'hpos = 37
        · rw [if_pos c2] at H
          have c2i : (((s[0]'hpos).toNat : Nat) : Int) = 37 := by rw [c2]; rfl
          by_cases c3 : 2 < s.size
          · rw [if_pos c3] at H
            have c3a : (2 : Int) < (s.size : Int) := by omega
            have c3b := eq_true c3a
            have c3c : (3 : Int) ≤ (s.size : Int) := by omega
            have c3d := eq_true c3c
            replace H := Option.bind_eq_some_iff.mp H
            obtain ⟨⟨t1, t2⟩, A1, H⟩ := H
            have A2 := Aside0.mk A1
            clear A1
            go_wp2_with fail
            refine (ascii_Hex.calls k1 _ t1 t2 _ A2.out).mono ?_
            rintro e w' ⟨rfl, ⟨nd, rfl⟩⟩
            have HI1 := Aside0.mk (HI.out.below (pw_below_drewN (Below.refl _ _) nd))
            have HB1 := Aside0.mk (pw_below_drewN HB.out nd)
            clear HI HB
            by_cases c4 : t2 = 0
            · rw [if_pos c4] at H
              subst c4
              have hconv : ((((t1 % 256).toNat.toUInt8).toNat : Nat) : Int) = t1 % 256 := by
                have h0 : 0 ≤ t1 % 256 := Int.emod_nonneg _ (by omega)
                have h1 : t1 % 256 < 256 := Int.emod_lt_of_pos _ (by omega)
                simp
                omega
              generalize (t1 % 256).toNat.toUInt8 = c at *
              go_wp2_with fail
              have hw := Go.Proofs.YtopaheopdpkjbaaDoor.Build.write _ _ acc c _ HI1.out (by have := HL.out; omega)
              rw [hconv] at hw
              refine hw.mono ?_
              rintro e w2 ⟨rfl, hh, hb2⟩
              have HI2 := Aside0.mk hh
              have HB2 := Aside0.mk (HB1.out.trans hb2)
              clear hh hb2 HB1 HI1 hw
              go_wp2_with fail
              have H' := Aside0.mk H
              clear H
              go_roundg k1
              case measure => have := HK.out; omega
              case rel =>
                have hL := HL.out
                have h1 : (s.extract 3 s.size).size = s.size - 3 := by rw [ByteArray.size_extract]; omega
                exact ⟨s.extract 3 s.size, acc ++ [c], (by first | rfl | (simp; done)), H', ⟨by have := HK.out; omega⟩, ⟨by rw [h1, List.length_append, List.length_singleton]; omega⟩, HI2, HB2⟩
            · rw [if_neg c4, c2] at H
              have c4b := eq_false c4
              go_wp2_with fail
              refine (Go.Proofs.YtopaheopdpkjbaaDoor.Build.write _ _ acc 37 _ HI1.out (by have := HL.out; omega)).mono ?_
              rintro e w2 ⟨rfl, hh, hb2⟩
              have HI2 := Aside0.mk hh
              have HB2 := Aside0.mk (HB1.out.trans hb2)
              clear hh hb2 HB1 HI1
              go_wp2_with fail
              have H' := Aside0.mk H
              clear H
              go_roundg k1
              case measure => have := HK.out; omega
              case rel =>
                have hL := HL.out
                have h1 : (s.extract 1 s.size).size = s.size - 1 := by rw [ByteArray.size_extract]; omega
                exact ⟨s.extract 1 s.size, acc ++ [37], (by first | rfl | (simp; done)), H', ⟨by have := HK.out; omega⟩, ⟨by rw [h1, List.length_append, List.length_singleton]; omega⟩, HI2, HB2⟩
          · rw [if_neg c3, c2] at H
            have c3a : ¬ (2 : Int) < (s.size : Int) := by omega
            have c3b := eq_false c3a
            have HI1 := HI
            have HB1 := HB
            clear HI HB
            go_wp2_with fail
            refine (Go.Proofs.YtopaheopdpkjbaaDoor.Build.write _ _ acc 37 _ HI1.out (by have := HL.out; omega)).mono ?_
            rintro e w2 ⟨rfl, hh, hb2⟩
            have HI2 := Aside0.mk hh
            have HB2 := Aside0.mk (HB1.out.trans hb2)
            clear hh hb2 HB1 HI1
            go_wp2_with fail
            have H' := Aside0.mk H
            clear H
            go_roundg k1
            case measure => have := HK.out; omega
            case rel =>
              have hL := HL.out
              have h1 : (s.extract 1 s.size).size = s.size - 1 := by rw [ByteArray.size_extract]; omega
              exact ⟨s.extract 1 s.size, acc ++ [37], (by first | rfl | (simp; done)), H', ⟨by have := HK.out; omega⟩, ⟨by rw [h1, List.length_append, List.length_singleton]; omega⟩, HI2, HB2⟩
        · rw [if_neg c2] at H
          have c2a : ¬ (((s[0]'hpos).toNat : Nat) : Int) = 37 := fun q => c2 (UInt8.toNat_inj.1 (by show (s[0]'hpos).toNat = 37; omega))
          have c2b := eq_false c2a
          have HI1 := HI
          have HB1 := HB
          clear HI HB
          go_wp2_with fail
          refine (Go.Proofs.YtopaheopdpkjbaaDoor.Build.write _ _ acc (s[0]'hpos) _ HI1.out (by have := HL.out; omega)).mono ?_
          rintro e w2 ⟨rfl, hh, hb2⟩
          have HI2 := Aside0.mk hh
          have HB2 := Aside0.mk (HB1.out.trans hb2)
          clear hh hb2 HB1 HI1
          go_wp2_with fail
          have H' := Aside0.mk H
          clear H
          go_roundg k1
          case measure => have := HK.out; omega
          case rel =>
            have hL := HL.out
            have h1 : (s.extract 1 s.size).size = s.size - 1 := by rw [ByteArray.size_extract]; omega
            exact ⟨s.extract 1 s.size, acc ++ [s[0]'hpos], (by first | rfl | (simp; done)), H', ⟨by have := HK.out; omega⟩, ⟨by rw [h1, List.length_append, List.length_singleton]; omega⟩, HI2, HB2⟩

/-! ### utf_IsText: function 75 -/
def utf_IsText.f (a0 : ByteArray) : Option (Bool) := some (Go.Proofs.YtopaheopdpkjbaaDoor.Utfs.isTextN a0 a0.size 0)
theorem utf_IsText.calls (a0 : ByteArray) (r : Bool) (w : World) (h : utf_IsText.f a0 = some r) :
    Calls Tryd.prog 75 #[.string a0] w fun e w' => e = .returned (.bool r) ∧ Below w.heap.size w w' := by
  obtain rfl := Option.some.inj h
  exact Go.Proofs.YtopaheopdpkjbaaDoor.Utfs.isText_calls a0 w

/-! ### utf8_DecodeRuneInString: function 85 -/
def utf8_DecodeRuneInString.f (a0 : ByteArray) : Option (Int × Int) := some ((((Lib.decodeGo a0).1 : Nat) : Int), (((Lib.decodeGo a0).2 : Nat) : Int))
theorem utf8_DecodeRuneInString.calls (a0 : ByteArray) (r1 : Int) (r2 : Int) (w : World) (h : utf8_DecodeRuneInString.f a0 = some (r1, r2)) (TT_ : Aside0 (Go.Proofs.YtopaheopdpkjbaaDoor.Tabs w) := by first | exact TT_ | exact ⟨Go.Proofs.YtopaheopdpkjbaaDoor.Tabs.below TT_.out (by repeat (first | (with_reducible first | exact HB.out | apply below_alloc | apply pw_below_drewN | apply below_drew1) | exact HB.out | (refine below_set ?_ ?_; rotate_left; exact (Aside0.out (by assumption)))))⟩) :
    Calls Tryd.prog 85 #[.string a0] w fun e w' => e = .returned (.tuple #[.int .i32 r1, .int .i64 r2]) ∧ Below w.heap.size w w' := by
  obtain ⟨rfl, rfl⟩ := Prod.mk.inj (Option.some.inj h)
  exact Tryd.utf8_DecodeRuneInString a0 w TT_.out.u8

/-! ### utf8_FullRuneInString: function 93 -/
def utf8_FullRuneInString.f (a0 : ByteArray) : Option (Bool) := Go.Proofs.YtopaheopdpkjbaaDoor.Full.unicode_utf8_FullRuneInString.f a0
theorem utf8_FullRuneInString.calls (a0 : ByteArray) (r : Bool) (w : World) (h : utf8_FullRuneInString.f a0 = some r) (TT_ : Aside0 (Go.Proofs.YtopaheopdpkjbaaDoor.Tabs w) := by first | exact TT_ | exact ⟨Go.Proofs.YtopaheopdpkjbaaDoor.Tabs.below TT_.out (by repeat (first | (with_reducible first | exact HB.out | apply below_alloc | apply pw_below_drewN | apply below_drew1) | exact HB.out | (refine below_set ?_ ?_; rotate_left; exact (Aside0.out (by assumption)))))⟩) :
    Calls Tryd.prog 93 #[.string a0] w fun e w' => e = .returned (.bool r) ∧ Below w.heap.size w w' :=
  Go.Proofs.YtopaheopdpkjbaaDoor.Full.unicode_utf8_FullRuneInString.calls a0 r w h TT_.out.u8

/-! ### utf_part: function 87 -/
def utf_part.l0 : Nat → ByteArray → Int → Int → Option (Int)
  | 0, _, _, _ => none
  | k + 1, x0, x3, x4 => if x4 < ((mn (x0.size : Int) 4) + 1) then (if 0 ≤ x4 then (if x4 ≤ (x0.size : Int) then ((utf8_FullRuneInString.f (x0.extract 0 (x4 : Int).toNat)).bind fun t105 => (if t105 = true then (utf_part.l0 k x0 x3 (wrap64 (x4 + 1))) else (utf_part.l0 k x0 x4 (wrap64 (x4 + 1))))) else (none)) else (none)) else (some x3)
def utf_part.f (k : Nat) (a0 : ByteArray) : Option (Int) := utf_part.l0 k a0 1 1
theorem utf_part.mono_l : ∀ k, (∀ y0 y1 y2, LeO (utf_part.l0 k y0 y1 y2) (utf_part.l0 (k + 1) y0 y1 y2))
  | 0 => fun _ _ _ r h => by simp [utf_part.l0] at h
  | k + 1 => by
    have ih0 := utf_part.mono_l k
    · intro y0 y1 y2
      unfold utf_part.l0
      repeat' first
      | (with_reducible exact ih0 _ _ _)
      | (with_reducible exact LeO.refl _)
      | (with_reducible exact LeO.none _)
      | (with_reducible refine LeO.ite ?_ ?_)
      | (with_reducible refine LeO.bind ?_ (fun _ => ?_))
      | exact ih0 _ _ _
      | exact LeO.none _
      | refine LeO.ite ?_ ?_
      | refine LeO.bind ?_ (fun _ => ?_)
theorem utf_part.mono : ∀ a0 k, LeO (utf_part.f k a0) (utf_part.f (k + 1) a0) := by
  intro a0 k
  have ih0 := utf_part.mono_l k
  unfold utf_part.f
  repeat' first
      | (with_reducible exact ih0 _ _ _)
      | (with_reducible exact LeO.refl _)
      | (with_reducible exact LeO.none _)
      | (with_reducible refine LeO.ite ?_ ?_)
      | (with_reducible refine LeO.bind ?_ (fun _ => ?_))
      | exact ih0 _ _ _
      | exact LeO.none _
      | refine LeO.ite ?_ ?_
      | refine LeO.bind ?_ (fun _ => ?_)
set_option maxHeartbeats 8000000 in
set_option maxRecDepth 100000 in
theorem utf_part.calls (k : Nat) (a0 : ByteArray) (r : Int) (w : World) (h : utf_part.f k a0 = some r) (TT_ : Aside0 (Go.Proofs.YtopaheopdpkjbaaDoor.Tabs w) := by first | exact TT_ | exact ⟨Go.Proofs.YtopaheopdpkjbaaDoor.Tabs.below TT_.out (by repeat (first | (with_reducible first | exact HB.out | apply below_alloc | apply pw_below_drewN | apply below_drew1) | exact HB.out | (refine below_set ?_ ?_; rotate_left; exact (Aside0.out (by assumption)))))⟩) :
    Calls Tryd.prog 87 #[.string a0] w fun e w' => e = .returned (.int .i64 r) ∧ Below w.heap.size w w' := by
  have HB := Aside0.mk (Below.refl w.heap.size w)
  have H : (utf_part.l0 k a0 1 1) = some r := h
  clear h
  have H' := Aside0.mk H
  clear H
  go_enter Tryd.func87, Tryd.ntmps87
  go_wp2
  go_loopg [3, 4] k (fun kq v3 v4 w' => ∃ (x3_1 : Int) (x4_1 : Int), v3 = .int .i64 x3_1 ∧ v4 = .int .i64 x4_1 ∧ Aside0 (utf_part.l0 kq a0 x3_1 x4_1 = some r) ∧ Aside0 (kq ≤ k) ∧ Aside0 (Below w.heap.size w w'))
  case atStart => exact ⟨(1), (1), (by first | rfl | (simp; done) | (simp [*]; done) | (simp; unfold wrap64; omega)), (by first | rfl | (simp; done) | (simp [*]; done) | (simp; unfold wrap64; omega)), H', ⟨Nat.le_refl _⟩, ⟨by repeat (first | (with_reducible first | exact HB.out | apply below_alloc | apply pw_below_drewN | apply below_drew1) | exact HB.out)⟩⟩
  case round =>
    clear H'
    obtain ⟨x3_1, x4_1, rfl, rfl, HA, HK1, HB⟩ := hrel
    cases gk with
    | zero => exact absurd HA.out (by simp [utf_part.l0])
    | succ k1 =>
      have H := HA.out
      clear HA
      simp only [utf_part.l0] at H
      obtain ⟨ji2, hji2⟩ : ∃ j_ : Int, (mn (a0.size : Int) 4) = j_ := ⟨_, rfl⟩
      replace H : (if x4_1 < ((ji2) + 1) then (if 0 ≤ x4_1 then (if x4_1 ≤ (a0.size : Int) then ((utf8_FullRuneInString.f (a0.extract 0 (x4_1 : Int).toNat)).bind fun t105 => (if t105 = true then (utf_part.l0 k1 a0 x3_1 (wrap64 (x4_1 + 1))) else (utf_part.l0 k1 a0 x4_1 (wrap64 (x4_1 + 1))))) else (none)) else (none)) else (some x3_1)) = some r := by first | (rw [hji2] at H; exact H) | (simp only [hji2] at H ⊢; exact H)
      have hji2_ : (if 4 < (a0.size : Int) then 4 else (a0.size : Int)) = ji2 := hji2
      by_cases c3 : x4_1 < ((ji2) + 1)
      · rw [if_pos c3] at H
        have c3b0 : decide (x4_1 < ((ji2) + 1)) = true := decide_eq_true c3
        clear c3
        by_cases c4 : 0 ≤ x4_1
        · rw [if_pos c4] at H
          have c4b0 := eq_true c4
          have c4b1 : decide (0 ≤ x4_1) = true := decide_eq_true c4
          clear c4
          by_cases c5 : x4_1 ≤ (a0.size : Int)
          · rw [if_pos c5] at H
            have c5b0 := eq_true c5
            have c5b1 : decide (x4_1 ≤ (a0.size : Int)) = true := decide_eq_true c5
            clear c5
            replace H := Option.bind_eq_some_iff.mp H
            obtain ⟨t105, A60, H⟩ := H
            replace H : (if t105 = true then (utf_part.l0 k1 a0 x3_1 (wrap64 (x4_1 + 1))) else (utf_part.l0 k1 a0 x4_1 (wrap64 (x4_1 + 1)))) = some r := H
            have A6 := Aside0.mk A60
            clear A60
            by_cases c7 : t105 = true
            · subst c7
              have H1 : (utf_part.l0 k1 a0 x3_1 (wrap64 (x4_1 + 1))) = some r := by rw [if_pos rfl] at H; exact H
              clear H
              have H := H1
              clear H1
              have H' := Aside0.mk H
              clear H
              go_wp2_with (first | ((with_reducible refine gate_callee (f := 93) rfl ?_); refine goesL_ (some 16) rfl rfl Tryd.func93 (by kernel_rfl) rfl #[.string (a0.extract 0 (x4_1 : Int).toNat)] rfl (by (try simp only [List.map_toArray, List.map_cons, List.map_nil]); first | done | rfl | (simp only [List.length_drop, List.length_take]; rfl)) ?_; (with_reducible refine (utf8_FullRuneInString.calls (a0.extract 0 (x4_1 : Int).toNat) true _ A6.out).mono ?_); rintro e w8 ⟨rfl, hb⟩; refine ⟨_, rfl, ?_⟩; have n0_ := Aside0.mk (below_step (by repeat (first | (with_reducible first | exact HB.out | apply below_alloc | apply pw_below_drewN | apply below_drew1) | exact HB.out)) hb); clear HB; have HB := n0_; clear n0_; (try clear hb); (try clear hb2); (try clear hk); (try clear hi)))
              go_roundg k1
              case measure => have := HK1.out; omega
              case rel => exact ⟨(x3_1), (wrap64 (x4_1 + 1)), (by first | rfl | (simp; done) | (simp [*]; done) | (simp; unfold wrap64; omega)), (by first | rfl | (simp; done) | (simp [*]; done) | (simp; unfold wrap64; omega)), H', ⟨by have := HK1.out; omega⟩, ⟨by repeat (first | (with_reducible first | exact HB.out | apply below_alloc | apply pw_below_drewN | apply below_drew1) | exact HB.out)⟩⟩
            · replace c7 := Bool.eq_false_iff.mpr c7
              subst c7
              have H1 : (utf_part.l0 k1 a0 x4_1 (wrap64 (x4_1 + 1))) = some r := by rw [if_neg (show ¬ (false = true) by decide)] at H; exact H
              clear H
              have H := H1
              clear H1
              have H' := Aside0.mk H
              clear H
              go_wp2_with (first | ((with_reducible refine gate_callee (f := 93) rfl ?_); refine goesL_ (some 16) rfl rfl Tryd.func93 (by kernel_rfl) rfl #[.string (a0.extract 0 (x4_1 : Int).toNat)] rfl (by (try simp only [List.map_toArray, List.map_cons, List.map_nil]); first | done | rfl | (simp only [List.length_drop, List.length_take]; rfl)) ?_; (with_reducible refine (utf8_FullRuneInString.calls (a0.extract 0 (x4_1 : Int).toNat) false _ A6.out).mono ?_); rintro e w9 ⟨rfl, hb⟩; refine ⟨_, rfl, ?_⟩; have n0_ := Aside0.mk (below_step (by repeat (first | (with_reducible first | exact HB.out | apply below_alloc | apply pw_below_drewN | apply below_drew1) | exact HB.out)) hb); clear HB; have HB := n0_; clear n0_; (try clear hb); (try clear hb2); (try clear hk); (try clear hi)))
              go_roundg k1
              case measure => have := HK1.out; omega
              case rel => exact ⟨(x4_1), (wrap64 (x4_1 + 1)), (by first | rfl | (simp; done) | (simp [*]; done) | (simp; unfold wrap64; omega)), (by first | rfl | (simp; done) | (simp [*]; done) | (simp; unfold wrap64; omega)), H', ⟨by have := HK1.out; omega⟩, ⟨by repeat (first | (with_reducible first | exact HB.out | apply below_alloc | apply pw_below_drewN | apply below_drew1) | exact HB.out)⟩⟩
          · rw [if_neg c5] at H
            exact absurd H (by simp)
        · rw [if_neg c4] at H
          exact absurd H (by simp)
      · rw [if_neg c3] at H
        have c3b0 : decide (x4_1 < ((ji2) + 1)) = false := decide_eq_false c3
        clear c3
        obtain rfl := Option.some.inj H
        go_wp2
        go_ret
        exact ⟨by first | rfl | (simp [errW_none, errW_some] <;> rfl) | (simp only [← hji2]; first | rfl | (simp [errW_none, errW_some] <;> rfl)) | (simp [*, errW_none, errW_some] <;> rfl), by repeat (first | (with_reducible first | exact HB.out | apply below_alloc | apply pw_below_drewN | apply below_drew1) | exact HB.out)⟩

/-! ### utf_Next: function 76 -/
def utf_Next.f (k : Nat) (a0 : ByteArray) : Option (Int × Int × Int) := if a0.toList = ([] : List UInt8) then (some (0, 0, 9)) else ((utf8_DecodeRuneInString.f a0).bind fun bt106 => (if bt106.1 = 65533 then (if bt106.2 = 1 then ((utf_part.f k a0).bind fun t108 => (some (65533, t108, 9))) else (some (bt106.1, bt106.2, 0))) else (some (bt106.1, bt106.2, 0))))
theorem utf_Next.mono : ∀ a0 k, LeO (utf_Next.f k a0) (utf_Next.f (k + 1) a0) := by
  intro a0 k
  unfold utf_Next.f
  repeat' first
      | (with_reducible exact utf_part.mono _ _)
      | (with_reducible exact LeO.refl _)
      | (with_reducible exact LeO.none _)
      | (with_reducible refine LeO.ite ?_ ?_)
      | (with_reducible refine LeO.bind ?_ (fun _ => ?_))
      | exact utf_part.mono _ _
      | exact LeO.none _
      | refine LeO.ite ?_ ?_
      | refine LeO.bind ?_ (fun _ => ?_)
set_option maxHeartbeats 8000000 in
set_option maxRecDepth 100000 in
theorem utf_Next.calls (k : Nat) (a0 : ByteArray) (r1 : Int) (r2 : Int) (r3 : Int) (w : World) (h : utf_Next.f k a0 = some (r1, r2, r3)) (TT_ : Aside0 (Go.Proofs.YtopaheopdpkjbaaDoor.Tabs w) := by first | exact TT_ | exact ⟨Go.Proofs.YtopaheopdpkjbaaDoor.Tabs.below TT_.out (by repeat (first | (with_reducible first | exact HB.out | apply below_alloc | apply pw_below_drewN | apply below_drew1) | exact HB.out | (refine below_set ?_ ?_; rotate_left; exact (Aside0.out (by assumption)))))⟩) :
    Calls Tryd.prog 76 #[.string a0] w fun e w' => e = .returned (.tuple #[.int .i32 r1, .int .i64 r2, .int .i64 r3]) ∧ Below w.heap.size w w' := by
  have HB := Aside0.mk (Below.refl w.heap.size w)
  have H : (if a0.toList = ([] : List UInt8) then (some (0, 0, 9)) else ((utf8_DecodeRuneInString.f a0).bind fun bt106 => (if bt106.1 = 65533 then (if bt106.2 = 1 then ((utf_part.f k a0).bind fun t108 => (some (65533, t108, 9))) else (some (bt106.1, bt106.2, 0))) else (some (bt106.1, bt106.2, 0))))) = some (r1, r2, r3) := h
  clear h
  by_cases c2 : a0.toList = ([] : List UInt8)
  · rw [if_pos c2] at H
    have c2b0 : (a0.toList == ([] : List UInt8)) = true := beq_iff_eq.mpr c2
    have c2b1 : (a0.toList != ([] : List UInt8)) = false := bne_eq_false_iff_eq.mpr c2
    clear c2
    simp only [Option.some.injEq, Prod.mk.injEq] at H
    obtain ⟨rfl, rfl, rfl⟩ := H
    go_enter Tryd.func76, Tryd.ntmps76
    go_wp2
    go_ret3
    exact ⟨by first | rfl | (simp [errW_none, errW_some] <;> rfl) | (simp [*, errW_none, errW_some] <;> rfl), by repeat (first | (with_reducible first | exact HB.out | apply below_alloc | apply pw_below_drewN | apply below_drew1) | exact HB.out)⟩
  · rw [if_neg c2] at H
    have c2b0 : (a0.toList == ([] : List UInt8)) = false := beq_eq_false_iff_ne.mpr c2
    have c2b1 : (a0.toList != ([] : List UInt8)) = true := bne_iff_ne.mpr c2
    replace H := Option.bind_eq_some_iff.mp H
    obtain ⟨⟨t106, t107⟩, A30, H⟩ := H
    replace H : (if t106 = 65533 then (if t107 = 1 then ((utf_part.f k a0).bind fun t108 => (some (65533, t108, 9))) else (some (t106, t107, 0))) else (some (t106, t107, 0))) = some (r1, r2, r3) := H
    have A3 := Aside0.mk A30
    clear A30
    by_cases c4 : t106 = 65533
    · rw [if_pos c4] at H
      have c4b0 : (t106 == 65533) = true := beq_iff_eq.mpr c4
      have c4b1 : (t106 != 65533) = false := bne_eq_false_iff_eq.mpr c4
      clear c4
      by_cases c5 : t107 = 1
      · rw [if_pos c5] at H
        have c5b0 : (t107 == 1) = true := beq_iff_eq.mpr c5
        have c5b1 : (t107 != 1) = false := bne_eq_false_iff_eq.mpr c5
        clear c5
        replace H := Option.bind_eq_some_iff.mp H
        obtain ⟨t108, A60, H⟩ := H
        replace H : (some (65533, t108, 9)) = some (r1, r2, r3) := H
        have A6 := Aside0.mk A60
        clear A60
        simp only [Option.some.injEq, Prod.mk.injEq] at H
        obtain ⟨rfl, rfl, rfl⟩ := H
        go_enter Tryd.func76, Tryd.ntmps76
        go_wp2_with (first | ((with_reducible refine gate_callee (f := 85) rfl ?_); refine goesL_ (some 11) rfl rfl Tryd.func85 (by kernel_rfl) rfl #[.string a0] rfl (by (try simp only [List.map_toArray, List.map_cons, List.map_nil]); first | done | rfl | (simp only [List.length_drop, List.length_take]; rfl)) ?_; (with_reducible refine (utf8_DecodeRuneInString.calls a0 t106 t107 _ A3.out).mono ?_); rintro e w7 ⟨rfl, hb⟩; refine ⟨_, rfl, ?_⟩; have n0_ := Aside0.mk (below_step (by repeat (first | (with_reducible first | exact HB.out | apply below_alloc | apply pw_below_drewN | apply below_drew1) | exact HB.out)) hb); clear HB; have HB := n0_; clear n0_; (try clear hb); (try clear hb2); (try clear hk); (try clear hi)) | ((with_reducible refine gate_callee (f := 87) rfl ?_); refine goesL_ (some 21) rfl rfl Tryd.func87 (by kernel_rfl) rfl #[.string a0] rfl (by (try simp only [List.map_toArray, List.map_cons, List.map_nil]); first | done | rfl | (simp only [List.length_drop, List.length_take]; rfl)) ?_; (with_reducible refine (utf_part.calls k a0 t108 _ A6.out).mono ?_); rintro e w8 ⟨rfl, hb⟩; refine ⟨_, rfl, ?_⟩; have n0_ := Aside0.mk (below_step (by repeat (first | (with_reducible first | exact HB.out | apply below_alloc | apply pw_below_drewN | apply below_drew1) | exact HB.out)) hb); clear HB; have HB := n0_; clear n0_; (try clear hb); (try clear hb2); (try clear hk); (try clear hi)))
        go_ret3
        exact ⟨by first | rfl | (simp [errW_none, errW_some] <;> rfl) | (simp [*, errW_none, errW_some] <;> rfl), by repeat (first | (with_reducible first | exact HB.out | apply below_alloc | apply pw_below_drewN | apply below_drew1) | exact HB.out)⟩
      · rw [if_neg c5] at H
        have c5b0 : (t107 == 1) = false := beq_eq_false_iff_ne.mpr c5
        have c5b1 : (t107 != 1) = true := bne_iff_ne.mpr c5
        simp only [Option.some.injEq, Prod.mk.injEq] at H
        obtain ⟨rfl, rfl, rfl⟩ := H
        go_enter Tryd.func76, Tryd.ntmps76
        go_wp2_with (first | ((with_reducible refine gate_callee (f := 85) rfl ?_); refine goesL_ (some 11) rfl rfl Tryd.func85 (by kernel_rfl) rfl #[.string a0] rfl (by (try simp only [List.map_toArray, List.map_cons, List.map_nil]); first | done | rfl | (simp only [List.length_drop, List.length_take]; rfl)) ?_; (with_reducible refine (utf8_DecodeRuneInString.calls a0 t106 t107 _ A3.out).mono ?_); rintro e w9 ⟨rfl, hb⟩; refine ⟨_, rfl, ?_⟩; have n0_ := Aside0.mk (below_step (by repeat (first | (with_reducible first | exact HB.out | apply below_alloc | apply pw_below_drewN | apply below_drew1) | exact HB.out)) hb); clear HB; have HB := n0_; clear n0_; (try clear hb); (try clear hb2); (try clear hk); (try clear hi)))
        go_ret3
        exact ⟨by first | rfl | (simp [errW_none, errW_some] <;> rfl) | (simp [*, errW_none, errW_some] <;> rfl), by repeat (first | (with_reducible first | exact HB.out | apply below_alloc | apply pw_below_drewN | apply below_drew1) | exact HB.out)⟩
    · rw [if_neg c4] at H
      have c4b0 : (t106 == 65533) = false := beq_eq_false_iff_ne.mpr c4
      have c4b1 : (t106 != 65533) = true := bne_iff_ne.mpr c4
      simp only [Option.some.injEq, Prod.mk.injEq] at H
      obtain ⟨rfl, rfl, rfl⟩ := H
      go_enter Tryd.func76, Tryd.ntmps76
      go_wp2_with (first | ((with_reducible refine gate_callee (f := 85) rfl ?_); refine goesL_ (some 11) rfl rfl Tryd.func85 (by kernel_rfl) rfl #[.string a0] rfl (by (try simp only [List.map_toArray, List.map_cons, List.map_nil]); first | done | rfl | (simp only [List.length_drop, List.length_take]; rfl)) ?_; (with_reducible refine (utf8_DecodeRuneInString.calls a0 t106 t107 _ A3.out).mono ?_); rintro e w10 ⟨rfl, hb⟩; refine ⟨_, rfl, ?_⟩; have n0_ := Aside0.mk (below_step (by repeat (first | (with_reducible first | exact HB.out | apply below_alloc | apply pw_below_drewN | apply below_drew1) | exact HB.out)) hb); clear HB; have HB := n0_; clear n0_; (try clear hb); (try clear hb2); (try clear hk); (try clear hi)))
      go_ret3
      exact ⟨by first | rfl | (simp [errW_none, errW_some] <;> rfl) | (simp [*, errW_none, errW_some] <;> rfl), by repeat (first | (with_reducible first | exact HB.out | apply below_alloc | apply pw_below_drewN | apply below_drew1) | exact HB.out)⟩

/-! ### utf8_AppendRune: function 77 -/
def utf8_AppendRune.f (l0 : List Int) (a1 : Int) : Option (List Int) := if -2147483648 ≤ a1 then (if a1 ≤ 2147483647 then (if l0.length + 4 ≤ 140737488355328 then (some (l0 ++ Lib.encodeRuneZ a1)) else (none)) else (none)) else (none)
theorem utf8_AppendRune.calls (P0_ : Nat → Prop) (u9000_ : Value) (l0 : List Int) (a1 : Int) (r : List Int) (w0 w : World) (hB : Below w0.heap.size w0 w) (ho0 : Kd.R (Kd.int .u8) 5 w w0.heap.size P0_ u9000_ l0) (h : utf8_AppendRune.f l0 a1 = some r) :
    Calls Tryd.prog 77 #[u9000_, .int .i32 a1] w fun e w' => ∃ v0_ : Value, e = .returned (v0_) ∧ Kd.R (Kd.int .u8) 5 w' w0.heap.size (fun k_ => (P0_ k_ ∨ w.heap.size ≤ k_)) v0_ r ∧ Below w0.heap.size w0 w' ∧ Kept w w' (fun k_ => P0_ k_) := by
  unfold utf8_AppendRune.f at h
  by_cases h0 : -2147483648 ≤ a1
  case neg => rw [if_neg h0] at h; cases h
  by_cases h1 : a1 ≤ 2147483647
  case neg => rw [if_pos h0, if_neg h1] at h; cases h
  by_cases h2 : l0.length + 4 ≤ 140737488355328
  case neg => rw [if_pos h0, if_pos h1, if_neg h2] at h; cases h
  rw [if_pos h0, if_pos h1, if_pos h2] at h
  obtain rfl := Option.some.inj h
  exact Go.Proofs.YtopaheopdpkjbaaDoor.Runes.append_calls P0_ u9000_ l0 a1 h0 h1 h2 w0 w hB ho0

/-! ### utf_Repair: function 61 -/
def utf_Repair.l0 : Nat → ByteArray → List Int → Option (ByteArray)
  | 0, _, _ => none
  | k + 1, x0, x3 => if x0.toList = ([] : List UInt8) then (some (strOfNums x3)) else ((utf_Next.f k x0).bind fun bt110 => ((utf8_AppendRune.f x3 bt110.1).bind fun t113 => (if 0 ≤ bt110.2.1 then (if bt110.2.1 ≤ (x0.size : Int) then (utf_Repair.l0 k (x0.extract (bt110.2.1 : Int).toNat x0.size) t113) else (none)) else (none))))
def utf_Repair.f (k : Nat) (a0 : ByteArray) : Option (ByteArray) := (utf_IsText.f a0).bind fun t109 => (if t109 = true then (some a0) else (utf_Repair.l0 k a0 ([] : List Int)))
theorem utf_Repair.mono_l : ∀ k, (∀ y0 y1, LeO (utf_Repair.l0 k y0 y1) (utf_Repair.l0 (k + 1) y0 y1))
  | 0 => fun _ _ r h => by simp [utf_Repair.l0] at h
  | k + 1 => by
    have ih0 := utf_Repair.mono_l k
    · intro y0 y1
      unfold utf_Repair.l0
      repeat' first
      | (with_reducible exact ih0 _ _)
      | (with_reducible exact utf_Next.mono _ _)
      | (with_reducible exact LeO.refl _)
      | (with_reducible exact LeO.none _)
      | (with_reducible refine LeO.ite ?_ ?_)
      | (with_reducible refine LeO.bind ?_ (fun _ => ?_))
      | exact ih0 _ _
      | exact utf_Next.mono _ _
      | exact LeO.none _
      | refine LeO.ite ?_ ?_
      | refine LeO.bind ?_ (fun _ => ?_)
theorem utf_Repair.mono : ∀ a0 k, LeO (utf_Repair.f k a0) (utf_Repair.f (k + 1) a0) := by
  intro a0 k
  have ih0 := utf_Repair.mono_l k
  unfold utf_Repair.f
  repeat' first
      | (with_reducible exact ih0 _ _)
      | (with_reducible exact utf_Next.mono _ _)
      | (with_reducible exact LeO.refl _)
      | (with_reducible exact LeO.none _)
      | (with_reducible refine LeO.ite ?_ ?_)
      | (with_reducible refine LeO.bind ?_ (fun _ => ?_))
      | exact ih0 _ _
      | exact utf_Next.mono _ _
      | exact LeO.none _
      | refine LeO.ite ?_ ?_
      | refine LeO.bind ?_ (fun _ => ?_)
set_option maxHeartbeats 8000000 in
set_option maxRecDepth 100000 in
theorem utf_Repair.calls (k : Nat) (a0 : ByteArray) (r : ByteArray) (w : World) (h : utf_Repair.f k a0 = some r) (TT_ : Aside0 (Go.Proofs.YtopaheopdpkjbaaDoor.Tabs w) := by first | exact TT_ | exact ⟨Go.Proofs.YtopaheopdpkjbaaDoor.Tabs.below TT_.out (by repeat (first | (with_reducible first | exact HB.out | apply below_alloc | apply pw_below_drewN | apply below_drew1) | exact HB.out | (refine below_set ?_ ?_; rotate_left; exact (Aside0.out (by assumption)))))⟩) :
    Calls Tryd.prog 61 #[.string a0] w fun e w' => e = .returned (.string r) ∧ Below w.heap.size w w' := by
  have HB := Aside0.mk (Below.refl w.heap.size w)
  have H : ((utf_IsText.f a0).bind fun t109 => (if t109 = true then (some a0) else (utf_Repair.l0 k a0 ([] : List Int)))) = some r := h
  clear h
  replace H := Option.bind_eq_some_iff.mp H
  obtain ⟨t109, A20, H⟩ := H
  replace H : (if t109 = true then (some a0) else (utf_Repair.l0 k a0 ([] : List Int))) = some r := H
  have A2 := Aside0.mk A20
  clear A20
  by_cases c3 : t109 = true
  · subst c3
    have H1 : (some a0) = some r := by rw [if_pos rfl] at H; exact H
    clear H
    have H := H1
    clear H1
    obtain rfl := Option.some.inj H
    go_enter Tryd.func61, Tryd.ntmps61
    go_wp2_with (first | ((with_reducible refine gate_callee (f := 75) rfl ?_); refine goesL_ (some 8) rfl rfl Tryd.func75 (by kernel_rfl) rfl #[.string a0] rfl (by (try simp only [List.map_toArray, List.map_cons, List.map_nil]); first | done | rfl | (simp only [List.length_drop, List.length_take]; rfl)) ?_; (with_reducible refine (utf_IsText.calls a0 true _ A2.out).mono ?_); rintro e w4 ⟨rfl, hb⟩; refine ⟨_, rfl, ?_⟩; have n0_ := Aside0.mk (below_step (by repeat (first | (with_reducible first | exact HB.out | apply below_alloc | apply pw_below_drewN | apply below_drew1) | exact HB.out)) hb); clear HB; have HB := n0_; clear n0_; (try clear hb); (try clear hb2); (try clear hk); (try clear hi)))
    go_ret
    exact ⟨by first | rfl | (simp [errW_none, errW_some] <;> rfl) | (simp [*, errW_none, errW_some] <;> rfl), by repeat (first | (with_reducible first | exact HB.out | apply below_alloc | apply pw_below_drewN | apply below_drew1) | exact HB.out)⟩
  · replace c3 := Bool.eq_false_iff.mpr c3
    subst c3
    have H1 : (utf_Repair.l0 k a0 ([] : List Int)) = some r := by rw [if_neg (show ¬ (false = true) by decide)] at H; exact H
    clear H
    have H := H1
    clear H1
    have H' := Aside0.mk H
    clear H
    go_enter Tryd.func61, Tryd.ntmps61
    go_wp2_with (first | ((with_reducible refine gate_callee (f := 75) rfl ?_); refine goesL_ (some 8) rfl rfl Tryd.func75 (by kernel_rfl) rfl #[.string a0] rfl (by (try simp only [List.map_toArray, List.map_cons, List.map_nil]); first | done | rfl | (simp only [List.length_drop, List.length_take]; rfl)) ?_; (with_reducible refine (utf_IsText.calls a0 false _ A2.out).mono ?_); rintro e w5 ⟨rfl, hb⟩; refine ⟨_, rfl, ?_⟩; have n0_ := Aside0.mk (below_step (by repeat (first | (with_reducible first | exact HB.out | apply below_alloc | apply pw_below_drewN | apply below_drew1) | exact HB.out)) hb); clear HB; have HB := n0_; clear n0_; (try clear hb); (try clear hb2); (try clear hk); (try clear hi)))
    go_loopg [0, 3] k (fun kq v0 v3 w' => ∃ (x0_1 : ByteArray) (x3_1 : List Int), v0 = .string x0_1 ∧ Aside0 (utf_Repair.l0 kq x0_1 x3_1 = some r) ∧ Aside0 (kq ≤ k) ∧ Aside0 (Kd.R (Kd.int .u8) 5 w' w.heap.size (fun _ => True) v3 x3_1) ∧ Aside0 (Below w.heap.size w w'))
    case atStart => exact ⟨(a0), (([] : List Int)), (by first | rfl | (simp; done) | (simp [*]; done) | (simp; unfold wrap64; omega)), H', ⟨Nat.le_refl _⟩, ⟨by first | exact Kd.R_nil _ _ _ _ _ | exact Kd.N_nil _ _ _ _ _ | exact Kd.V_nil _ _ _ _ _ | exact Kd.Q_nil _ _ _ _ _ | exact Kd.S_nil _ _ _ _ _⟩, ⟨by repeat (first | (with_reducible first | exact HB.out | apply below_alloc | apply pw_below_drewN | apply below_drew1) | exact HB.out)⟩⟩
    case round =>
      clear H'
      try clear p2
      try clear c3
      obtain ⟨x0_1, x3_1, rfl, HA, HK1, HO_3, HB⟩ := hrel
      cases gk with
      | zero => exact absurd HA.out (by simp [utf_Repair.l0])
      | succ k1 =>
        have H := HA.out
        clear HA
        simp only [utf_Repair.l0] at H
        by_cases c6 : x0_1.toList = ([] : List UInt8)
        · rw [if_pos c6] at H
          have c6b0 : (x0_1.toList == ([] : List UInt8)) = true := beq_iff_eq.mpr c6
          have c6b1 : (x0_1.toList != ([] : List UInt8)) = false := bne_eq_false_iff_eq.mpr c6
          clear c6
          obtain rfl := Option.some.inj H
          have hcv7 := own_string (P := Tryd.prog) Tryd.underlying52 Tryd.underlying5 Tryd.underlying9 (Kd.own_of_R HO_3.out)
          go_wp2
          go_ret
          exact ⟨by first | rfl | (simp [errW_none, errW_some] <;> rfl) | (simp [*, errW_none, errW_some] <;> rfl), by repeat (first | (with_reducible first | exact HB.out | apply below_alloc | apply pw_below_drewN | apply below_drew1) | exact HB.out)⟩
        · rw [if_neg c6] at H
          have c6b0 : (x0_1.toList == ([] : List UInt8)) = false := beq_eq_false_iff_ne.mpr c6
          have c6b1 : (x0_1.toList != ([] : List UInt8)) = true := bne_iff_ne.mpr c6
          replace H := Option.bind_eq_some_iff.mp H
          obtain ⟨⟨t110, t111, t112⟩, A80, H⟩ := H
          replace H : ((utf8_AppendRune.f x3_1 t110).bind fun t113 => (if 0 ≤ t111 then (if t111 ≤ (x0_1.size : Int) then (utf_Repair.l0 k1 (x0_1.extract (t111 : Int).toNat x0_1.size) t113) else (none)) else (none))) = some r := H
          have A8 := Aside0.mk A80
          clear A80
          replace H := Option.bind_eq_some_iff.mp H
          obtain ⟨t113, A90, H⟩ := H
          replace H : (if 0 ≤ t111 then (if t111 ≤ (x0_1.size : Int) then (utf_Repair.l0 k1 (x0_1.extract (t111 : Int).toNat x0_1.size) t113) else (none)) else (none)) = some r := H
          have A9 := Aside0.mk A90
          clear A90
          by_cases c10 : 0 ≤ t111
          · rw [if_pos c10] at H
            have c10b0 := eq_true c10
            have c10b1 : decide (0 ≤ t111) = true := decide_eq_true c10
            clear c10
            by_cases c11 : t111 ≤ (x0_1.size : Int)
            · rw [if_pos c11] at H
              have c11b0 := eq_true c11
              have c11b1 : decide (t111 ≤ (x0_1.size : Int)) = true := decide_eq_true c11
              clear c11
              have H' := Aside0.mk H
              clear H
              go_wp2_with (first | ((with_reducible refine gate_callee (f := 76) rfl ?_); refine goesL_ (some 14) rfl rfl Tryd.func76 (by kernel_rfl) rfl #[.string x0_1] rfl (by (try simp only [List.map_toArray, List.map_cons, List.map_nil]); first | done | rfl | (simp only [List.length_drop, List.length_take]; rfl)) ?_; (with_reducible refine (utf_Next.calls k1 x0_1 t110 t111 t112 _ A8.out).mono ?_); rintro e w12 ⟨rfl, hb⟩; refine ⟨_, rfl, ?_⟩; have n0_ := Aside0.mk (Kd.R_below (by (with_reducible repeat (first | apply Kd.R_alloc | apply Kd.R_drewN | apply Kd.R_drew)); exact HO_3.out) hb); have n1_ := Aside0.mk (below_step (by repeat (first | (with_reducible first | exact HB.out | apply below_alloc | apply pw_below_drewN | apply below_drew1) | exact HB.out)) hb); clear HO_3; clear HB; have HO_3 := n0_; have HB := n1_; clear n0_ n1_; (try clear hb); (try clear hb2); (try clear hk); (try clear hi); obtain ⟨Ao13, co13, eo13⟩ := Kd.R_slice HO_3.out; subst eo13) | ((with_reducible refine gate_callee (f := 77) rfl ?_); refine goesL_ (some 20) rfl rfl Tryd.func77 (by kernel_rfl) rfl #[.slice Ao13 x3_1.length co13, .int .i32 t110] rfl (by (try simp only [List.map_toArray, List.map_cons, List.map_nil]); first | done | rfl | (simp only [List.length_drop, List.length_take]; rfl)) ?_; (with_reducible refine (utf8_AppendRune.calls (fun k_ => some k_ = (.slice Ao13 x3_1.length co13 : Value).ownBlock) (.slice Ao13 x3_1.length co13) x3_1 t110 t113 w _ ?side1 ?side2 A9.out).mono ?_); (case side1 => repeat (first | (with_reducible first | exact HB.out | apply below_alloc | apply pw_below_drewN | apply below_drew1) | exact HB.out)); (case side2 => exact Kd.R_tight rfl HO_3.out); rintro e w14 ⟨v114, rfl, ho0, hb, hkp⟩; refine ⟨_, rfl, ?_⟩; have n0_ := Aside0.mk (Kd.R_mono (ok' := fun k_ => True) ho0 (fun k_ hk_ => trivial)); have n1_ := Aside0.mk (hb); clear HB; clear HO_3; have HO115 := n0_; have HB := n1_; clear n0_ n1_; (try clear hb); (try clear hkp); (try clear ho0)))
              go_roundg k1
              case measure => have := HK1.out; omega
              case rel => exact ⟨(x0_1.extract (t111 : Int).toNat x0_1.size), (t113), (by first | rfl | (simp; done) | (simp [*]; done) | (simp; unfold wrap64; omega)), H', ⟨by have := HK1.out; omega⟩, ⟨by (with_reducible repeat (first | apply Kd.R_alloc | apply Kd.R_drewN | apply Kd.R_drew)); exact HO115.out⟩, ⟨by repeat (first | (with_reducible first | exact HB.out | apply below_alloc | apply pw_below_drewN | apply below_drew1) | exact HB.out)⟩⟩
            · rw [if_neg c11] at H
              exact absurd H (by simp)
          · rw [if_neg c10] at H
            exact absurd H (by simp)

/-! ### strings_ReplaceAll: function 62 -/
def strings_ReplaceAll.f (a0 : ByteArray) (a1 : ByteArray) (a2 : ByteArray) : Option (ByteArray) := if a0.size < 4294967281 then (if 1 ≤ a1.size then (if a0.size + Lib.countB a0 a1 * a2.size ≤ 140737488355328 then (some (⟨(Lib.replaceAll a0.data.toList a1.data.toList a2.data.toList).toArray⟩ : ByteArray)) else (none)) else (none)) else (none)
theorem strings_ReplaceAll.calls (a0 : ByteArray) (a1 : ByteArray) (a2 : ByteArray) (r : ByteArray) (w : World) (h : strings_ReplaceAll.f a0 a1 a2 = some r) (TT_ : Aside0 (Go.Proofs.YtopaheopdpkjbaaDoor.Tabs w) := by first | exact TT_ | exact ⟨Go.Proofs.YtopaheopdpkjbaaDoor.Tabs.below TT_.out (by repeat (first | (with_reducible first | exact HB.out | apply below_alloc | apply pw_below_drewN | apply below_drew1) | exact HB.out | (refine below_set ?_ ?_; rotate_left; exact (Aside0.out (by assumption)))))⟩) :
    Calls Tryd.prog 62 #[.string a0, .string a1, .string a2] w fun e w' => e = .returned (.string r) ∧ Below w.heap.size w w' := by
  unfold strings_ReplaceAll.f at h
  by_cases h1 : a0.size < 4294967281
  case neg => rw [if_neg h1] at h; cases h
  by_cases h2 : 1 ≤ a1.size
  case neg => rw [if_pos h1, if_neg h2] at h; cases h
  by_cases h3 : a0.size + Lib.countB a0 a1 * a2.size ≤ 140737488355328
  case neg => rw [if_pos h1, if_pos h2, if_neg h3] at h; cases h
  rw [if_pos h1, if_pos h2, if_pos h3] at h
  obtain rfl := Option.some.inj h
  obtain ⟨m, hm⟩ := TT_.out.mx
  exact Tryd.strings_ReplaceAll a0 a1 a2 m w h1 hm h2 h3

/-! ### percent_read: function 40 -/
def percent_read.f (k : Nat) (a0 : ByteArray) : Option (ByteArray) := (strings_ReplaceAll.f a0 (⟨#[43]⟩ : ByteArray) (⟨#[32]⟩ : ByteArray)).bind fun t116 => ((percent_Unmark.f k t116).bind fun t117 => ((utf_Repair.f k t117).bind fun t118 => (some t118)))
theorem percent_read.mono : ∀ a0 k, LeO (percent_read.f k a0) (percent_read.f (k + 1) a0) := by
  intro a0 k
  unfold percent_read.f
  repeat' first
      | (with_reducible exact percent_Unmark.mono _ _)
      | (with_reducible exact utf_Repair.mono _ _)
      | (with_reducible exact LeO.refl _)
      | (with_reducible exact LeO.none _)
      | (with_reducible refine LeO.ite ?_ ?_)
      | (with_reducible refine LeO.bind ?_ (fun _ => ?_))
      | exact percent_Unmark.mono _ _
      | exact utf_Repair.mono _ _
      | exact LeO.none _
      | refine LeO.ite ?_ ?_
      | refine LeO.bind ?_ (fun _ => ?_)
set_option maxHeartbeats 8000000 in
set_option maxRecDepth 100000 in
theorem percent_read.calls (k : Nat) (a0 : ByteArray) (r : ByteArray) (w : World) (h : percent_read.f k a0 = some r) (TT_ : Aside0 (Go.Proofs.YtopaheopdpkjbaaDoor.Tabs w) := by first | exact TT_ | exact ⟨Go.Proofs.YtopaheopdpkjbaaDoor.Tabs.below TT_.out (by repeat (first | (with_reducible first | exact HB.out | apply below_alloc | apply pw_below_drewN | apply below_drew1) | exact HB.out | (refine below_set ?_ ?_; rotate_left; exact (Aside0.out (by assumption)))))⟩) :
    Calls Tryd.prog 40 #[.string a0] w fun e w' => e = .returned (.string r) ∧ Below w.heap.size w w' := by
  have HB := Aside0.mk (Below.refl w.heap.size w)
  have H : ((strings_ReplaceAll.f a0 (⟨#[43]⟩ : ByteArray) (⟨#[32]⟩ : ByteArray)).bind fun t116 => ((percent_Unmark.f k t116).bind fun t117 => ((utf_Repair.f k t117).bind fun t118 => (some t118)))) = some r := h
  clear h
  replace H := Option.bind_eq_some_iff.mp H
  obtain ⟨t116, A20, H⟩ := H
  replace H : ((percent_Unmark.f k t116).bind fun t117 => ((utf_Repair.f k t117).bind fun t118 => (some t118))) = some r := H
  have A2 := Aside0.mk A20
  clear A20
  replace H := Option.bind_eq_some_iff.mp H
  obtain ⟨t117, A30, H⟩ := H
  replace H : ((utf_Repair.f k t117).bind fun t118 => (some t118)) = some r := H
  have A3 := Aside0.mk A30
  clear A30
  replace H := Option.bind_eq_some_iff.mp H
  obtain ⟨t118, A40, H⟩ := H
  replace H : (some t118) = some r := H
  have A4 := Aside0.mk A40
  clear A40
  obtain rfl := Option.some.inj H
  go_enter Tryd.func40, Tryd.ntmps40
  go_wp2_with (first | ((with_reducible refine gate_callee (f := 62) rfl ?_); refine goesL_ (some 4) rfl rfl Tryd.func62 (by kernel_rfl) rfl #[.string a0, .string (⟨#[43]⟩ : ByteArray), .string (⟨#[32]⟩ : ByteArray)] rfl (by (try simp only [List.map_toArray, List.map_cons, List.map_nil]); first | done | rfl | (simp only [List.length_drop, List.length_take]; rfl)) ?_; (with_reducible refine (strings_ReplaceAll.calls a0 (⟨#[43]⟩ : ByteArray) (⟨#[32]⟩ : ByteArray) t116 _ A2.out).mono ?_); rintro e w5 ⟨rfl, hb⟩; refine ⟨_, rfl, ?_⟩; have n0_ := Aside0.mk (below_step (by repeat (first | (with_reducible first | exact HB.out | apply below_alloc | apply pw_below_drewN | apply below_drew1) | exact HB.out)) hb); clear HB; have HB := n0_; clear n0_; (try clear hb); (try clear hb2); (try clear hk); (try clear hi)) | ((with_reducible refine gate_callee (f := 13) rfl ?_); refine goesL_ (some 5) rfl rfl Tryd.func13 (by kernel_rfl) rfl #[.string t116] rfl (by (try simp only [List.map_toArray, List.map_cons, List.map_nil]); first | done | rfl | (simp only [List.length_drop, List.length_take]; rfl)) ?_; (with_reducible refine (percent_Unmark.calls k t116 t117 _ A3.out).mono ?_); rintro e w6 ⟨rfl, hb⟩; refine ⟨_, rfl, ?_⟩; have n0_ := Aside0.mk (below_step (by repeat (first | (with_reducible first | exact HB.out | apply below_alloc | apply pw_below_drewN | apply below_drew1) | exact HB.out)) hb); clear HB; have HB := n0_; clear n0_; (try clear hb); (try clear hb2); (try clear hk); (try clear hi)) | ((with_reducible refine gate_callee (f := 61) rfl ?_); refine goesL_ (some 6) rfl rfl Tryd.func61 (by kernel_rfl) rfl #[.string t117] rfl (by (try simp only [List.map_toArray, List.map_cons, List.map_nil]); first | done | rfl | (simp only [List.length_drop, List.length_take]; rfl)) ?_; (with_reducible refine (utf_Repair.calls k t117 t118 _ A4.out).mono ?_); rintro e w7 ⟨rfl, hb⟩; refine ⟨_, rfl, ?_⟩; have n0_ := Aside0.mk (below_step (by repeat (first | (with_reducible first | exact HB.out | apply below_alloc | apply pw_below_drewN | apply below_drew1) | exact HB.out)) hb); clear HB; have HB := n0_; clear n0_; (try clear hb); (try clear hb2); (try clear hk); (try clear hi)))
  go_ret
  exact ⟨by first | rfl | (simp [errW_none, errW_some] <;> rfl) | (simp [*, errW_none, errW_some] <;> rfl), by repeat (first | (with_reducible first | exact HB.out | apply below_alloc | apply pw_below_drewN | apply below_drew1) | exact HB.out)⟩

/-! ### percent_Parse: function 16 -/
def percent_Parse.l0 : Nat → List (S43) → List ByteArray → Int → Int → Option ((List (S43)) × Int)
  | 0, _, _, _, _ => none
  | k + 1, x4, x14, x15, x16 => if x16 < x15 then (if 0 ≤ x16 then (if x16 < (x14.length : Int) then ((strings_Cut.f (rdOf ByteArray.empty x14 x16) (⟨#[61]⟩ : ByteArray)).bind fun bt124 => (if (rdOf ByteArray.empty x14 x16).toList = ([] : List UInt8) then (percent_Parse.l0 k x4 x14 x15 (wrap64 (x16 + 1))) else ((percent_read.f k bt124.1).bind fun t127 => ((percent_read.f k bt124.2.1).bind fun t128 => (if x4.length < 4398046511104 then (percent_Parse.l0 k (x4 ++ [(⟨t127, t128⟩ : S43)]) x14 x15 (wrap64 (x16 + 1))) else (none)))))) else (none)) else (none)) else (some (x4, 0))
def percent_Parse.f (k : Nat) (a0 : ByteArray) : Option ((List (S43)) × Int) := (strings_Count.f a0 (⟨#[38]⟩ : ByteArray)).bind fun t119 => (if t119 > 512 then (some (([] : List (S43)), 5)) else ((strings_Split.f a0 (⟨#[38]⟩ : ByteArray)).bind fun t120 => (percent_Parse.l0 k ([] : List (S43)) t120 (t120.length : Int) 0)))
theorem percent_Parse.mono_l : ∀ k, (∀ y0 y1 y2 y3, LeO (percent_Parse.l0 k y0 y1 y2 y3) (percent_Parse.l0 (k + 1) y0 y1 y2 y3))
  | 0 => fun _ _ _ _ r h => by simp [percent_Parse.l0] at h
  | k + 1 => by
    have ih0 := percent_Parse.mono_l k
    · intro y0 y1 y2 y3
      unfold percent_Parse.l0
      repeat' first
      | (with_reducible exact ih0 _ _ _ _)
      | (with_reducible exact percent_read.mono _ _)
      | (with_reducible exact LeO.refl _)
      | (with_reducible exact LeO.none _)
      | (with_reducible refine LeO.ite ?_ ?_)
      | (with_reducible refine LeO.bind ?_ (fun _ => ?_))
      | exact ih0 _ _ _ _
      | exact percent_read.mono _ _
      | exact LeO.none _
      | refine LeO.ite ?_ ?_
      | refine LeO.bind ?_ (fun _ => ?_)
theorem percent_Parse.mono : ∀ a0 k, LeO (percent_Parse.f k a0) (percent_Parse.f (k + 1) a0) := by
  intro a0 k
  have ih0 := percent_Parse.mono_l k
  unfold percent_Parse.f
  repeat' first
      | (with_reducible exact ih0 _ _ _ _)
      | (with_reducible exact percent_read.mono _ _)
      | (with_reducible exact LeO.refl _)
      | (with_reducible exact LeO.none _)
      | (with_reducible refine LeO.ite ?_ ?_)
      | (with_reducible refine LeO.bind ?_ (fun _ => ?_))
      | exact ih0 _ _ _ _
      | exact percent_read.mono _ _
      | exact LeO.none _
      | refine LeO.ite ?_ ?_
      | refine LeO.bind ?_ (fun _ => ?_)
set_option maxHeartbeats 8000000 in
set_option maxRecDepth 100000 in
theorem percent_Parse.calls (k : Nat) (a0 : ByteArray) (r1 : List (S43)) (r2 : Int) (w : World) (h : percent_Parse.f k a0 = some (r1, r2)) (TT_ : Aside0 (Go.Proofs.YtopaheopdpkjbaaDoor.Tabs w) := by first | exact TT_ | exact ⟨Go.Proofs.YtopaheopdpkjbaaDoor.Tabs.below TT_.out (by repeat (first | (with_reducible first | exact HB.out | apply below_alloc | apply pw_below_drewN | apply below_drew1) | exact HB.out | (refine below_set ?_ ?_; rotate_left; exact (Aside0.out (by assumption)))))⟩) :
    Calls Tryd.prog 16 #[.string a0] w fun e w' => ∃ v0_ : Value, e = .returned (.tuple #[v0_, .int .i64 r2]) ∧ Kd.R k43 43 w' w.heap.size (fun _ => True) v0_ r1 ∧ Below w.heap.size w w' := by
  have hu43 := Tryd.underlying43
  have HB := Aside0.mk (Below.refl w.heap.size w)
  have H : ((strings_Count.f a0 (⟨#[38]⟩ : ByteArray)).bind fun t119 => (if t119 > 512 then (some (([] : List (S43)), 5)) else ((strings_Split.f a0 (⟨#[38]⟩ : ByteArray)).bind fun t120 => (percent_Parse.l0 k ([] : List (S43)) t120 (t120.length : Int) 0)))) = some (r1, r2) := h
  clear h
  replace H := Option.bind_eq_some_iff.mp H
  obtain ⟨t119, A20, H⟩ := H
  replace H : (if t119 > 512 then (some (([] : List (S43)), 5)) else ((strings_Split.f a0 (⟨#[38]⟩ : ByteArray)).bind fun t120 => (percent_Parse.l0 k ([] : List (S43)) t120 (t120.length : Int) 0))) = some (r1, r2) := H
  have A2 := Aside0.mk A20
  clear A20
  by_cases c3 : t119 > 512
  · rw [if_pos c3] at H
    have c3b0 : decide (512 < t119) = true := decide_eq_true c3
    clear c3
    simp only [Option.some.injEq, Prod.mk.injEq] at H
    obtain ⟨rfl, rfl⟩ := H
    go_enter Tryd.func16, Tryd.ntmps16
    go_wp2_with (first | ((with_reducible refine gate_callee (f := 37) rfl ?_); refine goesL_ (some 11) rfl rfl Tryd.func37 (by kernel_rfl) rfl #[.string a0, .string (⟨#[38]⟩ : ByteArray)] rfl (by (try simp only [List.map_toArray, List.map_cons, List.map_nil]); first | done | rfl | (simp only [List.length_drop, List.length_take]; rfl)) ?_; (with_reducible refine (strings_Count.calls a0 (⟨#[38]⟩ : ByteArray) t119 _ A2.out).mono ?_); rintro e w' ⟨rfl, ⟨nd, rfl⟩⟩; refine ⟨_, rfl, ?_⟩))
    go_ret2
    exact ⟨_, by first | rfl | (simp [errW_none, errW_some] <;> rfl) | (simp [*, errW_none, errW_some] <;> rfl), by first | exact Kd.R_nil _ _ _ _ _ | exact Kd.N_nil _ _ _ _ _ | exact Kd.V_nil _ _ _ _ _ | exact Kd.Q_nil _ _ _ _ _ | exact Kd.S_nil _ _ _ _ _, by repeat (first | (with_reducible first | exact HB.out | apply below_alloc | apply pw_below_drewN | apply below_drew1) | exact HB.out)⟩
  · rw [if_neg c3] at H
    have c3b0 : decide (512 < t119) = false := decide_eq_false c3
    clear c3
    replace H := Option.bind_eq_some_iff.mp H
    obtain ⟨t120, A40, H⟩ := H
    replace H : (percent_Parse.l0 k ([] : List (S43)) t120 (t120.length : Int) 0) = some (r1, r2) := H
    have A4 := Aside0.mk A40
    clear A40
    have H' := Aside0.mk H
    clear H
    go_enter Tryd.func16, Tryd.ntmps16
    go_wp2_with (first | ((with_reducible refine gate_callee (f := 37) rfl ?_); refine goesL_ (some 11) rfl rfl Tryd.func37 (by kernel_rfl) rfl #[.string a0, .string (⟨#[38]⟩ : ByteArray)] rfl (by (try simp only [List.map_toArray, List.map_cons, List.map_nil]); first | done | rfl | (simp only [List.length_drop, List.length_take]; rfl)) ?_; (with_reducible refine (strings_Count.calls a0 (⟨#[38]⟩ : ByteArray) t119 _ A2.out).mono ?_); rintro e w' ⟨rfl, ⟨nd, rfl⟩⟩; refine ⟨_, rfl, ?_⟩) | ((with_reducible refine gate_callee (f := 38) rfl ?_); refine goesL_ (some 14) rfl rfl Tryd.func38 (by kernel_rfl) rfl #[.string a0, .string (⟨#[38]⟩ : ByteArray)] rfl (by (try simp only [List.map_toArray, List.map_cons, List.map_nil]); first | done | rfl | (simp only [List.length_drop, List.length_take]; rfl)) ?_; (with_reducible refine (strings_Split.calls a0 (⟨#[38]⟩ : ByteArray) t120 _ A4.out).mono ?_); rintro e w5 ⟨v121, rfl, ho0, hb⟩; refine ⟨_, rfl, ?_⟩; have n0_ := Aside0.mk (Kd.R_lower ho0 (below_size (by repeat (first | (with_reducible first | exact HB.out | apply below_alloc | apply pw_below_drewN | apply below_drew1) | exact HB.out)))); have n1_ := Aside0.mk (below_step (by repeat (first | (with_reducible first | exact HB.out | apply below_alloc | apply pw_below_drewN | apply below_drew1) | exact HB.out)) hb); clear HB; have HO122 := n0_; have HB := n1_; clear n0_ n1_; (try clear hb); (try clear hb2); (try clear hk); (try clear hi); (try clear ho0); obtain ⟨Ao6, co6, eo6⟩ := Kd.R_slice HO122.out; subst eo6))
    go_loopg [4, 16] k (fun kq v4 v16 w' => ∃ (x4_1 : List (S43)) (x16_1 : Int), v16 = .int .i64 x16_1 ∧ Aside0 (percent_Parse.l0 kq x4_1 t120 (t120.length : Int) x16_1 = some (r1, r2)) ∧ Aside0 (kq ≤ k) ∧ Aside0 (Kd.R k43 43 w' w.heap.size (fun _ => True) v4 x4_1) ∧ Aside0 (Kd.R Kd.string 9 w' w.heap.size (fun _ => True) (.slice Ao6 t120.length co6) t120) ∧ Aside0 (Below w.heap.size w w'))
    case atStart => exact ⟨(([] : List (S43))), (0), (by first | rfl | (simp; done) | (simp [*]; done) | (simp; unfold wrap64; omega)), H', ⟨Nat.le_refl _⟩, ⟨by first | exact Kd.R_nil _ _ _ _ _ | exact Kd.N_nil _ _ _ _ _ | exact Kd.V_nil _ _ _ _ _ | exact Kd.Q_nil _ _ _ _ _ | exact Kd.S_nil _ _ _ _ _⟩, ⟨by (with_reducible repeat (first | apply Kd.R_alloc | apply Kd.R_drewN | apply Kd.R_drew)); exact HO122.out⟩, ⟨by repeat (first | (with_reducible first | exact HB.out | apply below_alloc | apply pw_below_drewN | apply below_drew1) | exact HB.out)⟩⟩
    case round =>
      clear H'
      try clear c1
      try clear p2
      try clear c3
      try clear c3b0
      try clear p6
      obtain ⟨x4_1, x16_1, rfl, HA, HK1, HO_4, HO_14, HB⟩ := hrel
      cases gk with
      | zero => exact absurd HA.out (by simp [percent_Parse.l0])
      | succ k1 =>
        have H := HA.out
        clear HA
        simp only [percent_Parse.l0] at H
        by_cases c7 : x16_1 < (t120.length : Int)
        · rw [if_pos c7] at H
          have c7b0 : decide (x16_1 < (t120.length : Int)) = true := decide_eq_true c7
          clear c7
          by_cases c8 : 0 ≤ x16_1
          · rw [if_pos c8] at H
            have c8b0 : decide (0 ≤ x16_1) = true := decide_eq_true c8
            clear c8
            by_cases c9 : x16_1 < (t120.length : Int)
            · rw [if_pos c9] at H
              have c9b0 : decide (x16_1 < (t120.length : Int)) = true := decide_eq_true c9
              clear c9
              replace H := Option.bind_eq_some_iff.mp H
              obtain ⟨⟨t124, t125, t126⟩, A100, H⟩ := H
              replace H : (if (rdOf ByteArray.empty t120 x16_1).toList = ([] : List UInt8) then (percent_Parse.l0 k1 x4_1 t120 (t120.length : Int) (wrap64 (x16_1 + 1))) else ((percent_read.f k1 t124).bind fun t127 => ((percent_read.f k1 t125).bind fun t128 => (if x4_1.length < 4398046511104 then (percent_Parse.l0 k1 (x4_1 ++ [(⟨t127, t128⟩ : S43)]) t120 (t120.length : Int) (wrap64 (x16_1 + 1))) else (none))))) = some (r1, r2) := H
              have A10 := Aside0.mk A100
              clear A100
              by_cases c11 : (rdOf ByteArray.empty t120 x16_1).toList = ([] : List UInt8)
              · rw [if_pos c11] at H
                have c11b0 : ((rdOf ByteArray.empty t120 x16_1).toList == ([] : List UInt8)) = true := beq_iff_eq.mpr c11
                have c11b1 : ((rdOf ByteArray.empty t120 x16_1).toList != ([] : List UInt8)) = false := bne_eq_false_iff_eq.mpr c11
                clear c11
                have H' := Aside0.mk H
                clear H
                have p123 : 0 ≤ (x16_1 : Int) := of_decide_eq_true (by first | (with_reducible assumption) | assumption)
                have q123 : x16_1 < (t120.length : Int) := of_decide_eq_true (by first | (with_reducible assumption) | assumption)
                obtain ⟨ad123, e123, hx123_0⟩ := Kd.at_string (Kd.R_reads' HO_14.out).2.2 x16_1 p123 q123
                cases e123
                replace p123 := eq_true p123
                replace q123 := eq_true q123
                go_wp2_with (first | ((with_reducible refine gate_callee (f := 39) rfl ?_); refine goesL_ (some 22) rfl rfl Tryd.func39 (by kernel_rfl) rfl #[.string (rdOf ByteArray.empty t120 x16_1), .string (⟨#[61]⟩ : ByteArray)] rfl (by (try simp only [List.map_toArray, List.map_cons, List.map_nil]); first | done | rfl | (simp only [List.length_drop, List.length_take]; rfl)) ?_; (with_reducible refine (strings_Cut.calls (rdOf ByteArray.empty t120 x16_1) (⟨#[61]⟩ : ByteArray) t124 t125 t126 _ A10.out).mono ?_); rintro e w12 ⟨rfl, hb⟩; refine ⟨_, rfl, ?_⟩; have n0_ := Aside0.mk (Kd.R_below (by (with_reducible repeat (first | apply Kd.R_alloc | apply Kd.R_drewN | apply Kd.R_drew)); exact HO_4.out) hb); have n1_ := Aside0.mk (Kd.R_below (by (with_reducible repeat (first | apply Kd.R_alloc | apply Kd.R_drewN | apply Kd.R_drew)); exact HO_14.out) hb); have n2_ := Aside0.mk (below_step (by repeat (first | (with_reducible first | exact HB.out | apply below_alloc | apply pw_below_drewN | apply below_drew1) | exact HB.out)) hb); clear HO_4; clear HO_14; clear HB; have HO_4 := n0_; have HO_14 := n1_; have HB := n2_; clear n0_ n1_ n2_; (try clear hb); (try clear hb2); (try clear hk); (try clear hi)))
                go_roundg k1
                case measure => have := HK1.out; omega
                case rel => exact ⟨(x4_1), (wrap64 (x16_1 + 1)), (by first | rfl | (simp; done) | (simp [*]; done) | (simp; unfold wrap64; omega)), H', ⟨by have := HK1.out; omega⟩, ⟨by (with_reducible repeat (first | apply Kd.R_alloc | apply Kd.R_drewN | apply Kd.R_drew)); exact HO_4.out⟩, ⟨by (with_reducible repeat (first | apply Kd.R_alloc | apply Kd.R_drewN | apply Kd.R_drew)); exact HO_14.out⟩, ⟨by repeat (first | (with_reducible first | exact HB.out | apply below_alloc | apply pw_below_drewN | apply below_drew1) | exact HB.out)⟩⟩
              · rw [if_neg c11] at H
                have c11b0 : ((rdOf ByteArray.empty t120 x16_1).toList == ([] : List UInt8)) = false := beq_eq_false_iff_ne.mpr c11
                have c11b1 : ((rdOf ByteArray.empty t120 x16_1).toList != ([] : List UInt8)) = true := bne_iff_ne.mpr c11
                replace H := Option.bind_eq_some_iff.mp H
                obtain ⟨t127, A130, H⟩ := H
                replace H : ((percent_read.f k1 t125).bind fun t128 => (if x4_1.length < 4398046511104 then (percent_Parse.l0 k1 (x4_1 ++ [(⟨t127, t128⟩ : S43)]) t120 (t120.length : Int) (wrap64 (x16_1 + 1))) else (none))) = some (r1, r2) := H
                have A13 := Aside0.mk A130
                clear A130
                replace H := Option.bind_eq_some_iff.mp H
                obtain ⟨t128, A140, H⟩ := H
                replace H : (if x4_1.length < 4398046511104 then (percent_Parse.l0 k1 (x4_1 ++ [(⟨t127, t128⟩ : S43)]) t120 (t120.length : Int) (wrap64 (x16_1 + 1))) else (none)) = some (r1, r2) := H
                have A14 := Aside0.mk A140
                clear A140
                by_cases c15 : x4_1.length < 4398046511104
                · rw [if_pos c15] at H
                  have LMc15 := Aside0.mk c15
                  clear c15
                  obtain ⟨y129, hy129⟩ : ∃ y_ : List (S43), y_ = (x4_1 ++ [(⟨t127, t128⟩ : S43)]) := ⟨_, rfl⟩
                  replace H : (percent_Parse.l0 k1 y129 t120 (t120.length : Int) (wrap64 (x16_1 + 1))) = some (r1, r2) := by first | (rw [hy129]; with_reducible exact H) | (have H2_ := (Option.bind_some _ _).symm.trans H; rw [hy129]; with_reducible exact H2_) | (have H2_ := (Option.bind_some _ _).symm.trans H; with_reducible exact H2_) | with_reducible exact H | (rw [hy129]; exact H) | exact H
                  have Ny129 := Aside0.mk hy129
                  clear hy129
                  have H' := Aside0.mk H
                  clear H
                  have p123 : 0 ≤ (x16_1 : Int) := of_decide_eq_true (by first | (with_reducible assumption) | assumption)
                  have q123 : x16_1 < (t120.length : Int) := of_decide_eq_true (by first | (with_reducible assumption) | assumption)
                  obtain ⟨ad123, e123, hx123_0⟩ := Kd.at_string (Kd.R_reads' HO_14.out).2.2 x16_1 p123 q123
                  cases e123
                  replace p123 := eq_true p123
                  replace q123 := eq_true q123
                  go_wp2_with (first | ((with_reducible refine gate_callee (f := 39) rfl ?_); refine goesL_ (some 22) rfl rfl Tryd.func39 (by kernel_rfl) rfl #[.string (rdOf ByteArray.empty t120 x16_1), .string (⟨#[61]⟩ : ByteArray)] rfl (by (try simp only [List.map_toArray, List.map_cons, List.map_nil]); first | done | rfl | (simp only [List.length_drop, List.length_take]; rfl)) ?_; (with_reducible refine (strings_Cut.calls (rdOf ByteArray.empty t120 x16_1) (⟨#[61]⟩ : ByteArray) t124 t125 t126 _ A10.out).mono ?_); rintro e w16 ⟨rfl, hb⟩; refine ⟨_, rfl, ?_⟩; have n0_ := Aside0.mk (Kd.R_below (by (with_reducible repeat (first | apply Kd.R_alloc | apply Kd.R_drewN | apply Kd.R_drew)); exact HO_4.out) hb); have n1_ := Aside0.mk (Kd.R_below (by (with_reducible repeat (first | apply Kd.R_alloc | apply Kd.R_drewN | apply Kd.R_drew)); exact HO_14.out) hb); have n2_ := Aside0.mk (below_step (by repeat (first | (with_reducible first | exact HB.out | apply below_alloc | apply pw_below_drewN | apply below_drew1) | exact HB.out)) hb); clear HO_4; clear HO_14; clear HB; have HO_4 := n0_; have HO_14 := n1_; have HB := n2_; clear n0_ n1_ n2_; (try clear hb); (try clear hb2); (try clear hk); (try clear hi)) | ((with_reducible refine gate_callee (f := 40) rfl ?_); refine goesL_ (some 30) rfl rfl Tryd.func40 (by kernel_rfl) rfl #[.string t124] rfl (by (try simp only [List.map_toArray, List.map_cons, List.map_nil]); first | done | rfl | (simp only [List.length_drop, List.length_take]; rfl)) ?_; (with_reducible refine (percent_read.calls k1 t124 t127 _ A13.out).mono ?_); rintro e w17 ⟨rfl, hb⟩; refine ⟨_, rfl, ?_⟩; have n0_ := Aside0.mk (Kd.R_below (by (with_reducible repeat (first | apply Kd.R_alloc | apply Kd.R_drewN | apply Kd.R_drew)); exact HO_4.out) hb); have n1_ := Aside0.mk (Kd.R_below (by (with_reducible repeat (first | apply Kd.R_alloc | apply Kd.R_drewN | apply Kd.R_drew)); exact HO_14.out) hb); have n2_ := Aside0.mk (below_step (by repeat (first | (with_reducible first | exact HB.out | apply below_alloc | apply pw_below_drewN | apply below_drew1) | exact HB.out)) hb); clear HO_4; clear HO_14; clear HB; have HO_4 := n0_; have HO_14 := n1_; have HB := n2_; clear n0_ n1_ n2_; (try clear hb); (try clear hb2); (try clear hk); (try clear hi)) | ((with_reducible refine gate_callee (f := 40) rfl ?_); refine goesL_ (some 32) rfl rfl Tryd.func40 (by kernel_rfl) rfl #[.string t125] rfl (by (try simp only [List.map_toArray, List.map_cons, List.map_nil]); first | done | rfl | (simp only [List.length_drop, List.length_take]; rfl)) ?_; (with_reducible refine (percent_read.calls k1 t125 t128 _ A14.out).mono ?_); rintro e w18 ⟨rfl, hb⟩; refine ⟨_, rfl, ?_⟩; have n0_ := Aside0.mk (Kd.R_below (by (with_reducible repeat (first | apply Kd.R_alloc | apply Kd.R_drewN | apply Kd.R_drew)); exact HO_4.out) hb); have n1_ := Aside0.mk (Kd.R_below (by (with_reducible repeat (first | apply Kd.R_alloc | apply Kd.R_drewN | apply Kd.R_drew)); exact HO_14.out) hb); have n2_ := Aside0.mk (below_step (by repeat (first | (with_reducible first | exact HB.out | apply below_alloc | apply pw_below_drewN | apply below_drew1) | exact HB.out)) hb); clear HO_4; clear HO_14; clear HB; have HO_4 := n0_; have HO_14 := n1_; have HB := n2_; clear n0_ n1_ n2_; (try clear hb); (try clear hb2); (try clear hk); (try clear hi)) | ((with_reducible refine gate_builtin (b := .append) (xs := #[.tmp 28, .tmp 34]) rfl ?_); at_builtin; refine Kd.R_append k43 (w0 := w) w.heap.size rfl (.tmp 28) (.tmp 34) 29 43 (.agg #[(.string ⟨#[]⟩), (.string ⟨#[]⟩)]) 32 rfl Tryd.underlying29 info43 rfl (by decide) (by omega) u4 x4_1 (⟨t127, t128⟩ : S43) [.string t127, .string t128] (fun _ => True) (fun _ => False) rfl rfl ?aP (fun _ hk => hk.elim) ?aF ?aO ?aB ?aS ?aL ?_; (case aP => exact k43_mkM _ _ _ (⟨t127, t128⟩ : S43)); (case aB => exact (by repeat (first | (with_reducible first | exact HB.out | apply below_alloc | apply pw_below_drewN | apply below_drew1) | exact HB.out))); (case aF => exact (fun _ _ => trivial)); (case aO => exact (by (with_reducible repeat (first | apply Kd.R_alloc | apply Kd.R_drewN | apply Kd.R_drew)); exact HO_4.out)); (case aS => exact (below_size (by repeat (first | (with_reducible first | exact HB.out | apply below_alloc | apply pw_below_drewN | apply below_drew1) | exact HB.out)))); (case aL => have := LMc15.out; omega); intro v130 w19 ho hb hg hat; rw [← Ny129.out] at ho; have n0_ := Aside0.mk (Kd.R_over' (by (with_reducible repeat (first | apply Kd.R_alloc | apply Kd.R_drewN | apply Kd.R_drew)); exact HO_14.out) (Kd.R_typed (by (with_reducible repeat (first | apply Kd.R_alloc | apply Kd.R_drewN | apply Kd.R_drew)); exact HO_4.out)) (by decide) hg); have n1_ := Aside0.mk (hb); have n2_ := Aside0.mk (ho); clear HO_14; clear HB; clear HO_4; have HO_14 := n0_; have HB := n1_; have HO131 := n2_; clear n0_ n1_ n2_; clear ho hb hg hat))
                  go_roundg k1
                  case measure => have := HK1.out; omega
                  case rel => exact ⟨(y129), (wrap64 (x16_1 + 1)), (by first | rfl | (simp; done) | (simp [*]; done) | (simp; unfold wrap64; omega)), H', ⟨by have := HK1.out; omega⟩, ⟨by (with_reducible repeat (first | apply Kd.R_alloc | apply Kd.R_drewN | apply Kd.R_drew)); exact HO131.out⟩, ⟨by (with_reducible repeat (first | apply Kd.R_alloc | apply Kd.R_drewN | apply Kd.R_drew)); exact HO_14.out⟩, ⟨by repeat (first | (with_reducible first | exact HB.out | apply below_alloc | apply pw_below_drewN | apply below_drew1) | exact HB.out)⟩⟩
                · rw [if_neg c15] at H
                  exact absurd H (by simp)
            · rw [if_neg c9] at H
              exact absurd H (by simp)
          · rw [if_neg c8] at H
            exact absurd H (by simp)
        · rw [if_neg c7] at H
          have c7b0 : decide (x16_1 < (t120.length : Int)) = false := decide_eq_false c7
          clear c7
          simp only [Option.some.injEq, Prod.mk.injEq] at H
          obtain ⟨rfl, rfl⟩ := H
          go_wp2
          go_ret2
          exact ⟨_, by first | rfl | (simp [errW_none, errW_some] <;> rfl) | (simp [*, errW_none, errW_some] <;> rfl), by (with_reducible repeat (first | apply Kd.R_alloc | apply Kd.R_drewN | apply Kd.R_drew)); exact HO_4.out, by repeat (first | (with_reducible first | exact HB.out | apply below_alloc | apply pw_below_drewN | apply below_drew1) | exact HB.out)⟩

/-! ### strings_IndexByte: function 30 -/
def strings_IndexByte.f (a0 : ByteArray) (a1 : Int) : Option (Int) := some (Lib.indexByte a0.data.toList a1.toNat.toUInt8)
theorem strings_IndexByte.calls (a0 : ByteArray) (a1 : Int) (r : Int) (w : World) (h : strings_IndexByte.f a0 a1 = some r) :
    Calls Tryd.prog 30 #[.string a0, .int .u8 a1] w fun e w' => e = .returned (.int .i64 r) ∧ Drawn0 w w' := by
  obtain rfl := Option.some.inj h
  refine (Tryd.strings_IndexByte a0 a1 w).mono ?_
  rintro e w' ⟨rfl, rfl⟩
  exact ⟨rfl, Drawn0.refl _⟩

/-! ### ascii_IsLetter: function 48 -/
def ascii_IsLetter.f (a0 : Int) : Option (Bool) := some (decide ((((Go.bits .or .u8 a0 32) - 97) % 256) < 26))
set_option maxHeartbeats 8000000 in
set_option maxRecDepth 100000 in
theorem ascii_IsLetter.calls (a0 : Int) (r : Bool) (w : World) (h : ascii_IsLetter.f a0 = some r) :
    Calls Tryd.prog 48 #[.int .u8 a0] w fun e w' => e = .returned (.bool r) ∧ Drawn0 w w' := by
  have H : (some (decide ((((Go.bits .or .u8 a0 32) - 97) % 256) < 26))) = some r := h
  clear h
  obtain rfl := Option.some.inj H
  go_enter Tryd.func48, Tryd.ntmps48
  go_wp2
  go_ret
  exact ⟨by first | rfl | (simp; done) | (simp [*]; done) | (simp; unfold wrap64; omega), by repeat (first | exact Drawn0.refl _ | apply Drawn0.step)⟩

/-! ### percent_isPlain: function 29 -/
def percent_isPlain.f (a0 : Int) : Option (Bool) := (ascii_IsLetter.f a0).bind fun t132 => (if t132 = true then (some true) else ((ascii_IsDigit.f a0).bind fun t133 => (if t133 = true then (some true) else ((strings_IndexByte.f (⟨#[45, 46, 95, 126]⟩ : ByteArray) a0).bind fun t134 => (some (decide (t134 ≥ 0)))))))
set_option maxHeartbeats 8000000 in
set_option maxRecDepth 100000 in
theorem percent_isPlain.calls (a0 : Int) (r : Bool) (w : World) (h : percent_isPlain.f a0 = some r) :
    Calls Tryd.prog 29 #[.int .u8 a0] w fun e w' => e = .returned (.bool r) ∧ Drawn0 w w' := by
  have H : ((ascii_IsLetter.f a0).bind fun t132 => (if t132 = true then (some true) else ((ascii_IsDigit.f a0).bind fun t133 => (if t133 = true then (some true) else ((strings_IndexByte.f (⟨#[45, 46, 95, 126]⟩ : ByteArray) a0).bind fun t134 => (some (decide (t134 ≥ 0)))))))) = some r := h
  clear h
  replace H := Option.bind_eq_some_iff.mp H
  obtain ⟨t132, A20, H⟩ := H
  replace H : (if t132 = true then (some true) else ((ascii_IsDigit.f a0).bind fun t133 => (if t133 = true then (some true) else ((strings_IndexByte.f (⟨#[45, 46, 95, 126]⟩ : ByteArray) a0).bind fun t134 => (some (decide (t134 ≥ 0))))))) = some r := H
  have A2 := Aside0.mk A20
  clear A20
  by_cases c3 : t132 = true
  · subst c3
    have H1 : (some true) = some r := by rw [if_pos rfl] at H; exact H
    clear H
    have H := H1
    clear H1
    obtain rfl := Option.some.inj H
    go_enter Tryd.func29, Tryd.ntmps29
    go_wp2_with (first | ((with_reducible refine gate_callee (f := 48) rfl ?_); refine goesL_ (some 4) rfl rfl Tryd.func48 (by kernel_rfl) rfl #[.int .u8 a0] rfl (by (try simp only [List.map_toArray, List.map_cons, List.map_nil]); first | done | rfl | (simp only [List.length_drop, List.length_take]; rfl)) ?_; (with_reducible refine (ascii_IsLetter.calls a0 true _ A2.out).mono ?_); rintro e w' ⟨rfl, ⟨nd, rfl⟩⟩; refine ⟨_, rfl, ?_⟩))
    go_ret
    exact ⟨by first | rfl | (simp; done) | (simp [*]; done) | (simp; unfold wrap64; omega), by repeat (first | exact Drawn0.refl _ | apply Drawn0.step)⟩
  · replace c3 := Bool.eq_false_iff.mpr c3
    subst c3
    have H1 : ((ascii_IsDigit.f a0).bind fun t133 => (if t133 = true then (some true) else ((strings_IndexByte.f (⟨#[45, 46, 95, 126]⟩ : ByteArray) a0).bind fun t134 => (some (decide (t134 ≥ 0)))))) = some r := by rw [if_neg (show ¬ (false = true) by decide)] at H; exact H
    clear H
    have H := H1
    clear H1
    replace H := Option.bind_eq_some_iff.mp H
    obtain ⟨t133, A40, H⟩ := H
    replace H : (if t133 = true then (some true) else ((strings_IndexByte.f (⟨#[45, 46, 95, 126]⟩ : ByteArray) a0).bind fun t134 => (some (decide (t134 ≥ 0))))) = some r := H
    have A4 := Aside0.mk A40
    clear A40
    by_cases c5 : t133 = true
    · subst c5
      have H1 : (some true) = some r := by rw [if_pos rfl] at H; exact H
      clear H
      have H := H1
      clear H1
      obtain rfl := Option.some.inj H
      go_enter Tryd.func29, Tryd.ntmps29
      go_wp2_with (first | ((with_reducible refine gate_callee (f := 48) rfl ?_); refine goesL_ (some 4) rfl rfl Tryd.func48 (by kernel_rfl) rfl #[.int .u8 a0] rfl (by (try simp only [List.map_toArray, List.map_cons, List.map_nil]); first | done | rfl | (simp only [List.length_drop, List.length_take]; rfl)) ?_; (with_reducible refine (ascii_IsLetter.calls a0 false _ A2.out).mono ?_); rintro e w' ⟨rfl, ⟨nd, rfl⟩⟩; refine ⟨_, rfl, ?_⟩) | (go_at_call 49; (with_reducible refine (ascii_IsDigit.calls a0 true _ A4.out).mono ?_); rintro e w' ⟨rfl, ⟨nd, rfl⟩⟩))
      go_ret
      exact ⟨by first | rfl | (simp; done) | (simp [*]; done) | (simp; unfold wrap64; omega), by repeat (first | exact Drawn0.refl _ | apply Drawn0.step)⟩
    · replace c5 := Bool.eq_false_iff.mpr c5
      subst c5
      have H1 : ((strings_IndexByte.f (⟨#[45, 46, 95, 126]⟩ : ByteArray) a0).bind fun t134 => (some (decide (t134 ≥ 0)))) = some r := by rw [if_neg (show ¬ (false = true) by decide)] at H; exact H
      clear H
      have H := H1
      clear H1
      replace H := Option.bind_eq_some_iff.mp H
      obtain ⟨t134, A60, H⟩ := H
      replace H : (some (decide (t134 ≥ 0))) = some r := H
      have A6 := Aside0.mk A60
      clear A60
      obtain rfl := Option.some.inj H
      go_enter Tryd.func29, Tryd.ntmps29
      go_wp2_with (first | ((with_reducible refine gate_callee (f := 48) rfl ?_); refine goesL_ (some 4) rfl rfl Tryd.func48 (by kernel_rfl) rfl #[.int .u8 a0] rfl (by (try simp only [List.map_toArray, List.map_cons, List.map_nil]); first | done | rfl | (simp only [List.length_drop, List.length_take]; rfl)) ?_; (with_reducible refine (ascii_IsLetter.calls a0 false _ A2.out).mono ?_); rintro e w' ⟨rfl, ⟨nd, rfl⟩⟩; refine ⟨_, rfl, ?_⟩) | (go_at_call 49; (with_reducible refine (ascii_IsDigit.calls a0 false _ A4.out).mono ?_); rintro e w' ⟨rfl, ⟨nd, rfl⟩⟩) | (go_at_call 30; (with_reducible refine (strings_IndexByte.calls (⟨#[45, 46, 95, 126]⟩ : ByteArray) a0 t134 _ A6.out).mono ?_); rintro e w' ⟨rfl, ⟨nd, rfl⟩⟩))
      go_ret
      exact ⟨by first | rfl | (simp; done) | (simp [*]; done) | (simp; unfold wrap64; omega), by repeat (first | exact Drawn0.refl _ | apply Drawn0.step)⟩

/-! ### percent_Mark: function 11 -/
def percent_Mark.hex : List UInt8 := [48, 49, 50, 51, 52, 53, 54, 55, 56, 57, 65, 66, 67, 68, 69, 70]
def percent_Mark.one (free : ByteArray) (c : UInt8) : List UInt8 := if percent_isPlain.f (c.toNat : Int) = some true ∨ 0 ≤ Lib.indexByte free.data.toList c then [c] else [37, percent_Mark.hex.getD (c.toNat / 16) 0, percent_Mark.hex.getD (c.toNat % 16) 0]
def percent_Mark.f (a0 : ByteArray) (a1 : ByteArray) : Option (ByteArray) := if a0.size ≤ 1000000000 then (some ⟨(a0.data.toList.flatMap (percent_Mark.one a1)).toArray⟩) else (none)
theorem percent_Mark.plain (c : UInt8) : ∃ b, percent_isPlain.f (c.toNat : Int) = some b := by
  have key : ∀ x : Fin 256, (percent_isPlain.f ((x.val : Nat) : Int)).isSome = true := by decide +kernel
  exact Option.isSome_iff_exists.1 (key ⟨c.toNat, c.toNat_lt⟩)
theorem percent_Mark.len (free : ByteArray) (l : List UInt8) : (l.flatMap (percent_Mark.one free)).length ≤ 3 * l.length := by
  induction l with
  | nil => simp
  | cons c l ih =>
    rw [List.flatMap_cons, List.length_append, List.length_cons]
    have : (percent_Mark.one free c).length ≤ 3 := by unfold percent_Mark.one; split <;> simp
    omega
theorem percent_Mark.snoc (free : ByteArray) (l : List UInt8) {n : Nat} (h : n < l.length) : (l.take (n + 1)).flatMap (percent_Mark.one free) = (l.take n).flatMap (percent_Mark.one free) ++ percent_Mark.one free l[n] := by
  rw [List.take_succ_eq_append_getElem h, List.flatMap_append]
  simp
theorem percent_Mark.and15 (c : UInt8) : Go.bits .and .u8 ((c.toNat : Nat) : Int) 15 = ((c.toNat % 16 : Nat) : Int) := by
  have key : ∀ x : Fin 256, Go.bits .and .u8 ((x.val : Nat) : Int) 15 = ((x.val % 16 : Nat) : Int) := by decide +kernel
  exact key ⟨c.toNat, c.toNat_lt⟩
theorem percent_Mark.hex_at (k : Nat) (h : k < (⟨#[48, 49, 50, 51, 52, 53, 54, 55, 56, 57, 65, 66, 67, 68, 69, 70]⟩ : ByteArray).size) : (⟨#[48, 49, 50, 51, 52, 53, 54, 55, 56, 57, 65, 66, 67, 68, 69, 70]⟩ : ByteArray)[k] = percent_Mark.hex.getD k 0 := by
  have key : ∀ k : Fin 16, (⟨#[48, 49, 50, 51, 52, 53, 54, 55, 56, 57, 65, 66, 67, 68, 69, 70]⟩ : ByteArray)[k.val]'(k.isLt) = percent_Mark.hex.getD k.val 0 := by decide +kernel
  exact key ⟨k, h⟩
set_option maxHeartbeats 2000000 in
set_option maxRecDepth 100000 in
theorem percent_Mark.calls (a0 : ByteArray) (a1 : ByteArray) (r : ByteArray) (w : World) (h : percent_Mark.f a0 a1 = some r) :
    Calls Tryd.prog 11 #[.string a0, .string a1] w fun e w' => e = .returned (.string r) ∧ Below w.heap.size w w' := by
  unfold percent_Mark.f at h
  by_cases hmax : a0.size ≤ 1000000000
  case neg => rw [if_neg hmax] at h; cases h
  rw [if_pos hmax] at h
  obtain rfl := Option.some.inj h
  clear h
  have hsz : a0.data.toList.length = a0.size := by rw [Array.length_toList]; rfl
  have HSZ := Aside0.mk hsz
  clear hsz
  go_enter Tryd.func11, Tryd.ntmps11
  go_wp2
  go_loopw [10] (fun j wr => ∃ n : Nat, n ≤ a0.size ∧ j = .int .i64 n ∧ Aside0 (Go.Proofs.YtopaheopdpkjbaaDoor.Build.Holds w.heap.size w.heap.size ((a0.data.toList.take n).flatMap (percent_Mark.one a1)) wr) ∧ Aside0 (Below w.heap.size w wr)) (fun j _ => a0.size - (intOf j).toNat)
  case atStart =>
    exact ⟨0, Nat.zero_le _, rfl, ⟨Go.Proofs.YtopaheopdpkjbaaDoor.Build.Holds.new w⟩, ⟨below_alloc (Below.refl _ _) _⟩⟩
  case round =>
    obtain ⟨n, hn, rfl, HI, HB⟩ := hrel
    by_cases hlt : n < a0.size
    · have hl : n < a0.data.toList.length := by rw [HSZ.out]; exact hlt
      have HS := Aside0.mk (show (a0.data.toList.take (n + 1)).flatMap (percent_Mark.one a1) = (a0.data.toList.take n).flatMap (percent_Mark.one a1) ++ percent_Mark.one a1 (a0[n]'hlt) from percent_Mark.snoc a1 a0.data.toList hl)
      obtain ⟨b, hb⟩ := percent_Mark.plain (a0[n]'hlt)
      have HP := Aside0.mk hb
      have HLEN := Aside0.mk (show ((a0.data.toList.take n).flatMap (percent_Mark.one a1)).length + 1 ≤ 140737488355328 from by
        have h1 := percent_Mark.len a1 (a0.data.toList.take n)
        rw [List.length_take] at h1
        omega)
      have HLEN2 := Aside0.mk (show ((a0.data.toList.take n).flatMap (percent_Mark.one a1) ++ [(37 : UInt8)]).length + 1 ≤ 140737488355328 from by
        have h1 := HLEN.out
        have h2 := percent_Mark.len a1 (a0.data.toList.take n)
        rw [List.length_take] at h2
        rw [List.length_append, List.length_singleton]
        omega)
      have HLEN3 := Aside0.mk (fun (x : UInt8) => show ((a0.data.toList.take n).flatMap (percent_Mark.one a1) ++ [(37 : UInt8)] ++ [x]).length + 1 ≤ 140737488355328 from by
        have h2 := percent_Mark.len a1 (a0.data.toList.take n)
        rw [List.length_take] at h2
        rw [List.length_append, List.length_append, List.length_singleton, List.length_singleton]
        omega)
      clear hb hl
      go_wp2_with fail
      refine (percent_isPlain.calls _ b _ HP.out).mono ?_
      rintro e w' ⟨rfl, ⟨nd, rfl⟩⟩
      have HI1 := Aside0.mk (HI.out.below (pw_below_drewN (Below.refl _ _) nd))
      have HB1 := Aside0.mk (pw_below_drewN HB.out nd)
      clear HI HB
      cases b with
      | true =>
        go_wp2_with fail
        refine (Go.Proofs.YtopaheopdpkjbaaDoor.Build.write _ _ _ (a0[n]'hlt) _ HI1.out HLEN.out).mono ?_
        rintro e w2 ⟨rfl, hh, hb2⟩
        have HI2 := Aside0.mk hh
        have HB2 := Aside0.mk (HB1.out.trans hb2)
        clear hh hb2 HB1 HI1
        go_wp2_with fail
        go_roundw
        case rel =>
          refine ⟨n + 1, by omega, by go_num, ⟨?_⟩, HB2⟩
          rw [HS.out]
          have e1 : percent_Mark.one a1 (a0[n]'hlt) = [a0[n]'hlt] := by unfold percent_Mark.one; rw [if_pos (.inl HP.out)]
          rw [e1]
          exact HI2.out
        case measure => simp [intOf]; omega
      | false =>
        go_wp2_with fail
        refine (Tryd.strings_IndexByte a1 (((a0[n]'hlt).toNat : Nat) : Int) _).mono ?_
        rintro e w' ⟨rfl, rfl⟩
        rw [show (((a0[n]'hlt).toNat : Nat) : Int).toNat.toUInt8 = a0[n]'hlt from by simp]
        obtain ⟨i, hi⟩ : ∃ i : Int, i = Lib.indexByte a1.data.toList (a0[n]'hlt) := ⟨_, rfl⟩
        rw [← hi]
        have HX := Aside0.mk hi
        clear hi
        by_cases h0 : 0 ≤ i
        · go_wp2_with fail
          refine (Go.Proofs.YtopaheopdpkjbaaDoor.Build.write _ _ _ (a0[n]'hlt) _ HI1.out HLEN.out).mono ?_
          rintro e w2 ⟨rfl, hh, hb2⟩
          have HI2 := Aside0.mk hh
          have HB2 := Aside0.mk (HB1.out.trans hb2)
          clear hh hb2 HB1 HI1
          go_wp2_with fail
          go_roundw
          case rel =>
            refine ⟨n + 1, by omega, by go_num, ⟨?_⟩, HB2⟩
            rw [HS.out]
            have e1 : percent_Mark.one a1 (a0[n]'hlt) = [a0[n]'hlt] := by unfold percent_Mark.one; rw [if_pos (.inr (by rw [← HX.out]; exact h0))]
            rw [e1]
            exact HI2.out
          case measure => simp [intOf]; omega
        · have h1 : ¬ i ≥ 0 := h0
          go_wp2_with fail
          refine (Go.Proofs.YtopaheopdpkjbaaDoor.Build.write _ _ _ 37 _ HI1.out HLEN.out).mono ?_
          rintro e w2 ⟨rfl, hh, hb2⟩
          have HI2 := Aside0.mk hh
          have HB2 := Aside0.mk (HB1.out.trans hb2)
          clear hh hb2 HB1 HI1
          have h16 : 0 ≤ (((a0[n]'hlt).toNat : Nat) : Int) / 16 ∧ (((a0[n]'hlt).toNat : Nat) : Int) / 16 < 16 := by have := (a0[n]'hlt).toNat_lt; omega
          have h16b := eq_true h16
          have hand := percent_Mark.and15 (a0[n]'hlt)
          go_wp2_with fail
          refine (Go.Proofs.YtopaheopdpkjbaaDoor.Build.write _ _ _ _ _ HI2.out HLEN2.out).mono ?_
          rintro e w3 ⟨rfl, hh, hb3⟩
          have HI3 := Aside0.mk hh
          have HB3 := Aside0.mk (HB2.out.trans hb3)
          clear hh hb3 HB2 HI2
          have h15 : 0 ≤ (((a0[n]'hlt).toNat % 16 : Nat) : Int) ∧ (((a0[n]'hlt).toNat % 16 : Nat) : Int) < 16 := by omega
          have h15b := eq_true h15
          go_wp2_with fail
          refine (Go.Proofs.YtopaheopdpkjbaaDoor.Build.write _ _ _ _ _ HI3.out (HLEN3.out _)).mono ?_
          rintro e w4 ⟨rfl, hh, hb4⟩
          have HI4 := Aside0.mk hh
          have HB4 := Aside0.mk (HB3.out.trans hb4)
          clear hh hb4 HB3 HI3
          go_wp2_with fail
          go_roundw
          case rel =>
            refine ⟨n + 1, by omega, by go_num, ⟨?_⟩, HB4⟩
            rw [HS.out]
            have e1 : percent_Mark.one a1 (a0[n]'hlt) = [37, percent_Mark.hex.getD ((a0[n]'hlt).toNat / 16) 0, percent_Mark.hex.getD ((a0[n]'hlt).toNat % 16) 0] := by
              unfold percent_Mark.one
              rw [if_neg (fun q => q.elim (fun q => by rw [HP.out] at q; cases q) (fun q => by rw [← HX.out] at q; omega))]
            rw [e1]
            have := HI4.out
            simp only [percent_Mark.hex_at, List.append_assoc, List.cons_append, List.nil_append] at this
            exact this
          case measure => simp [intOf]; omega
    · go_wp2_with fail
      refine (Go.Proofs.YtopaheopdpkjbaaDoor.Build.told _ _ _ _ HI.out).mono ?_
      rintro e w' ⟨rfl, hbw⟩
      go_wp2_with fail
      go_ret
      refine ⟨?_, HB.out.trans hbw⟩
      rw [List.take_of_length_le (by rw [HSZ.out]; omega)]
      rfl

/-! ### percent_part: function 43 -/
def percent_part.f (a0 : ByteArray) : Option (ByteArray) := (percent_Mark.f a0 (⟨#[32]⟩ : ByteArray)).bind fun t135 => ((strings_ReplaceAll.f t135 (⟨#[32]⟩ : ByteArray) (⟨#[43]⟩ : ByteArray)).bind fun t136 => (some t136))
set_option maxHeartbeats 8000000 in
set_option maxRecDepth 100000 in
theorem percent_part.calls (a0 : ByteArray) (r : ByteArray) (w : World) (h : percent_part.f a0 = some r) (TT_ : Aside0 (Go.Proofs.YtopaheopdpkjbaaDoor.Tabs w) := by first | exact TT_ | exact ⟨Go.Proofs.YtopaheopdpkjbaaDoor.Tabs.below TT_.out (by repeat (first | (with_reducible first | exact HB.out | apply below_alloc | apply pw_below_drewN | apply below_drew1) | exact HB.out | (refine below_set ?_ ?_; rotate_left; exact (Aside0.out (by assumption)))))⟩) :
    Calls Tryd.prog 43 #[.string a0] w fun e w' => e = .returned (.string r) ∧ Below w.heap.size w w' := by
  have HB := Aside0.mk (Below.refl w.heap.size w)
  have H : ((percent_Mark.f a0 (⟨#[32]⟩ : ByteArray)).bind fun t135 => ((strings_ReplaceAll.f t135 (⟨#[32]⟩ : ByteArray) (⟨#[43]⟩ : ByteArray)).bind fun t136 => (some t136))) = some r := h
  clear h
  replace H := Option.bind_eq_some_iff.mp H
  obtain ⟨t135, A20, H⟩ := H
  replace H : ((strings_ReplaceAll.f t135 (⟨#[32]⟩ : ByteArray) (⟨#[43]⟩ : ByteArray)).bind fun t136 => (some t136)) = some r := H
  have A2 := Aside0.mk A20
  clear A20
  replace H := Option.bind_eq_some_iff.mp H
  obtain ⟨t136, A30, H⟩ := H
  replace H : (some t136) = some r := H
  have A3 := Aside0.mk A30
  clear A30
  obtain rfl := Option.some.inj H
  go_enter Tryd.func43, Tryd.ntmps43
  go_wp2_with (first | ((with_reducible refine gate_callee (f := 11) rfl ?_); refine goesL_ (some 4) rfl rfl Tryd.func11 (by kernel_rfl) rfl #[.string a0, .string (⟨#[32]⟩ : ByteArray)] rfl (by (try simp only [List.map_toArray, List.map_cons, List.map_nil]); first | done | rfl | (simp only [List.length_drop, List.length_take]; rfl)) ?_; (with_reducible refine (percent_Mark.calls a0 (⟨#[32]⟩ : ByteArray) t135 _ A2.out).mono ?_); rintro e w4 ⟨rfl, hb⟩; refine ⟨_, rfl, ?_⟩; have n0_ := Aside0.mk (below_step (by repeat (first | (with_reducible first | exact HB.out | apply below_alloc | apply pw_below_drewN | apply below_drew1) | exact HB.out)) hb); clear HB; have HB := n0_; clear n0_; (try clear hb); (try clear hb2); (try clear hk); (try clear hi)) | ((with_reducible refine gate_callee (f := 62) rfl ?_); refine goesL_ (some 5) rfl rfl Tryd.func62 (by kernel_rfl) rfl #[.string t135, .string (⟨#[32]⟩ : ByteArray), .string (⟨#[43]⟩ : ByteArray)] rfl (by (try simp only [List.map_toArray, List.map_cons, List.map_nil]); first | done | rfl | (simp only [List.length_drop, List.length_take]; rfl)) ?_; (with_reducible refine (strings_ReplaceAll.calls t135 (⟨#[32]⟩ : ByteArray) (⟨#[43]⟩ : ByteArray) t136 _ A3.out).mono ?_); rintro e w5 ⟨rfl, hb⟩; refine ⟨_, rfl, ?_⟩; have n0_ := Aside0.mk (below_step (by repeat (first | (with_reducible first | exact HB.out | apply below_alloc | apply pw_below_drewN | apply below_drew1) | exact HB.out)) hb); clear HB; have HB := n0_; clear n0_; (try clear hb); (try clear hb2); (try clear hk); (try clear hi)))
  go_ret
  exact ⟨by first | rfl | (simp [errW_none, errW_some] <;> rfl) | (simp [*, errW_none, errW_some] <;> rfl), by repeat (first | (with_reducible first | exact HB.out | apply below_alloc | apply pw_below_drewN | apply below_drew1) | exact HB.out)⟩

/-! ### strings_Join: function 44 -/
def strings_Join.f (l0 : List ByteArray) (a1 : ByteArray) : Option (ByteArray) := if l0.length ≤ 140737488355328 then (if (Lib.join (l0.map (·.data.toList)) a1.data.toList).length ≤ 140737488355328 then (some ⟨(Lib.join (l0.map (·.data.toList)) a1.data.toList).toArray⟩) else (none)) else (none)
theorem strings_Join.calls (A0 : Option Addr) (c0 : Nat) (l0 : List ByteArray) (a1 : ByteArray) (r : ByteArray) (w : World) (hr0 : Kd.C Kd.string w A0 l0.length l0) (hc0 : l0.length ≤ c0) (h : strings_Join.f l0 a1 = some r) :
    Calls Tryd.prog 44 #[.slice A0 l0.length c0, .string a1] w fun e w' => e = .returned (.string r) ∧ Below w.heap.size w w' := by
  unfold strings_Join.f at h
  by_cases h1 : l0.length ≤ 140737488355328
  case neg =>
    rw [if_neg h1] at h
    cases h
  rw [if_pos h1] at h
  by_cases h2 : (Lib.join (l0.map (·.data.toList)) a1.data.toList).length ≤ 140737488355328
  case neg =>
    rw [if_neg h2] at h
    cases h
  rw [if_pos h2] at h
  obtain rfl := Option.some.inj h
  rcases l0 with _ | ⟨x, xs⟩
  · refine (Tryd.strings_Join_none A0 c0 a1 w).mono ?_
    rintro e w' ⟨rfl, rfl⟩
    exact ⟨rfl, Below.refl _ _⟩
  · obtain ⟨ad, rfl, hcell⟩ := Kd.C_strings_cells hr0 (by simp)
    obtain ⟨b, o, sp⟩ := ad
    have hsp : sp = none := by
      have := addr_of_cell (hcell 0 x rfl)
      unfold Addr.add at this
      cases sp with
      | none => rfl
      | some z => simp at this
    subst hsp
    have hc : ∀ (j : Nat) y, (x :: xs)[j]? = some y → w.cell? (Addr.mk b (o + j) none) = some (.string y) := by
      intro j y hj
      have := hcell j y hj
      have e1 : (Addr.mk b o none).add j = Addr.mk b (o + j) none := by unfold Addr.add; split <;> simp_all
      rwa [e1] at this
    refine (Tryd.strings_Join b o c0 (x :: xs) a1 w hc ?_ h1 hc0 h2).mono ?_
    · exact World.block_lt_of_cell? w _ (hc 0 x rfl)
    · rintro e w' ⟨rfl, hb⟩
      exact ⟨rfl, hb⟩

end Go.Proofs.YtopaheopdpkjbaaDoor.Q
