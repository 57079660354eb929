-- printed by a program of the session's own; Lean checks it
import Derived.Test.YtgbpmhkaobjnpaaDoorQ0
namespace Go.Proofs.YtgbpmhkaobjnpaaDoor.Q
open Go.RowKit Go.Proofs.YtgbpmhkaobjnpaaDoorW.PrintWords Go.Proofs.YtgbpmhkaobjnpaaDoorW.PrintLast Go.Proofs.YtgbpmhkaobjnpaaDoorW.PrintMore
attribute [local go_sem] max2_int min2_int max_two min_two max_three min_three max_four min_four   -- for this text's walks alone
set_option linter.unusedVariables false
set_option linter.unusedSimpArgs false

/-! ### cringlelaw01_long: function 5 -/
def cringlelaw01_long.f (a0 : ByteArray) : Option (Bool) := some (decide ((a0.size : Int) > 3000))
set_option maxHeartbeats 8000000 in
set_option maxRecDepth 100000 in
theorem cringlelaw01_long.calls (a0 : ByteArray) (r : Bool) (w : World) (h : cringlelaw01_long.f a0 = some r) :
    Calls Tryd.prog 5 #[.string a0] w fun e w' => e = .returned (.bool r) ∧ Drawn0 w w' := by
  have H : (some (decide ((a0.size : Int) > 3000))) = some r := h
  clear h
  obtain rfl := Option.some.inj H
  go_enter Tryd.func5, Tryd.ntmps5
  go_wp2
  go_ret
  exact ⟨by first | rfl | (simp; done) | (simp [*]; done), by repeat (first | exact Drawn0.refl _ | apply Drawn0.step)⟩

/-! ### ascii_low: function 19 -/
def ascii_low.f (a0 : Int) : Option (Int) := if ((a0 - 65) % 256) < 26 then (some (Go.bits .or .u8 a0 32)) else (some a0)
set_option maxHeartbeats 8000000 in
set_option maxRecDepth 100000 in
theorem ascii_low.calls (a0 : Int) (r : Int) (w : World) (h : ascii_low.f a0 = some r) :
    Calls Tryd.prog 19 #[.int .u8 a0] w fun e w' => e = .returned (.int .u8 r) ∧ Drawn0 w w' := by
  have H : (if ((a0 - 65) % 256) < 26 then (some (Go.bits .or .u8 a0 32)) else (some a0)) = some r := h
  clear h
  by_cases c2 : ((a0 - 65) % 256) < 26
  · rw [if_pos c2] at H
    have c2b0 : decide (((a0 - 65) % 256) < 26) = true := decide_eq_true c2
    clear c2
    obtain rfl := Option.some.inj H
    go_enter Tryd.func19, Tryd.ntmps19
    go_wp2
    go_ret
    exact ⟨by first | rfl | (simp; done) | (simp [*]; done), by repeat (first | exact Drawn0.refl _ | apply Drawn0.step)⟩
  · rw [if_neg c2] at H
    have c2b0 : decide (((a0 - 65) % 256) < 26) = false := decide_eq_false c2
    clear c2
    obtain rfl := Option.some.inj H
    go_enter Tryd.func19, Tryd.ntmps19
    go_wp2
    go_ret
    exact ⟨by first | rfl | (simp; done) | (simp [*]; done), by repeat (first | exact Drawn0.refl _ | apply Drawn0.step)⟩

/-! ### ascii_Lower: function 7 -/
def ascii_lowB (c : UInt8) : UInt8 := if 65 ≤ c ∧ c < 91 then c ||| 32 else c
theorem ascii_lowB_eq (c : UInt8) : ascii_low.f (c.toNat : Int) = some ((ascii_lowB c).toNat : Int) := by
  have key : ∀ n : Fin 256, ascii_low.f ((UInt8.ofNat n.val).toNat : Int) = some ((ascii_lowB (UInt8.ofNat n.val)).toNat : Int) := by decide +kernel
  have h := key ⟨c.toNat, c.toNat_lt⟩
  simpa using h
def ascii_Lower.f (a0 : ByteArray) : Option (ByteArray) := if a0.size ≤ 9223372036854775807 then (some ⟨(a0.data.toList.map ascii_lowB).toArray⟩) else (none)
/-- The first n bytes are lowered. -/
def ascii_Lower.part (l : List UInt8) (n : Nat) : List UInt8 := (l.take n).map ascii_lowB ++ l.drop n
theorem ascii_Lower.part_length (l : List UInt8) (n : Nat) : (ascii_Lower.part l n).length = l.length := by simp [ascii_Lower.part]; omega
theorem ascii_Lower.part_at (l : List UInt8) {n : Nat} (h : n < l.length) : (ascii_Lower.part l n)[n]'(by rw [ascii_Lower.part_length]; exact h) = l[n] := by
  unfold ascii_Lower.part
  rw [List.getElem_append_right (by rw [List.length_map, List.length_take]; omega)]
  simp [Nat.min_eq_left (Nat.le_of_lt h)]
theorem ascii_Lower.part_succ (l : List UInt8) {n : Nat} (h : n < l.length) : (ascii_Lower.part l n).set n (ascii_lowB l[n]) = ascii_Lower.part l (n + 1) := by
  unfold ascii_Lower.part
  rw [List.set_append_right _ _ (by rw [List.length_map, List.length_take]; omega), List.take_succ_eq_append_getElem h, List.map_append, List.append_assoc]
  congr 1
  rw [List.length_map, List.length_take, Nat.min_eq_left (Nat.le_of_lt h), Nat.sub_self, List.drop_eq_getElem_cons h]
  rfl
set_option maxHeartbeats 2000000 in
set_option maxRecDepth 100000 in
theorem ascii_Lower.calls (a0 : ByteArray) (r : ByteArray) (w : World) (h : ascii_Lower.f a0 = some r) :
    Calls Tryd.prog 7 #[.string a0] w fun e w' => e = .returned (.string r) ∧ Below w.heap.size w w' := by
  unfold ascii_Lower.f at h
  by_cases hmax : a0.size ≤ 9223372036854775807
  case neg =>
    rw [if_neg hmax] at h
    cases h
  rw [if_pos hmax] at h
  obtain rfl := Option.some.inj h
  clear h
  have hconv := fun (W : World) (s : ByteArray) => Lib.run_convert_string_bytes (P := Tryd.prog) W 9 34 5 s Tryd.underlying9 Tryd.underlying34 Tryd.underlying5
  have hsz : a0.data.toList.length = a0.size := by rw [Array.length_toList]; rfl
  have HSZ := Aside0.mk hsz
  clear hsz
  go_enter Tryd.func7, Tryd.ntmps7
  go_wp2
  go_loopw [10] (fun j wr => ∃ n : Nat, n ≤ a0.size ∧ j = .int .i64 n ∧ Aside0 (MarkedBytes wr w.heap.size 5 (ascii_Lower.part a0.data.toList n)) ∧ Aside0 (Below w.heap.size w wr)) (fun j _ => a0.size - (intOf j).toNat)
  case atStart =>
    refine ⟨0, Nat.zero_le _, rfl, ⟨?_⟩, ⟨Kd.below_bytesWorld (Below.refl _ _) (Nat.le_refl _)⟩⟩
    have := MarkedBytes.of_conv w 5 a0
    simpa [ascii_Lower.part] using this
  case round =>
    obtain ⟨n, hn, rfl, HM, HB⟩ := hrel
    by_cases hlt : n < a0.size
    · have hl : n < a0.data.toList.length := by rw [HSZ.out]; exact hlt
      have hp : n < (ascii_Lower.part a0.data.toList n).length := by rw [ascii_Lower.part_length]; exact hl
      have hcell := HM.out.cell hp
      have hfz := HM.out.unfrozen hp
      rw [ascii_Lower.part_at _ hl] at hcell
      obtain ⟨c, hc⟩ : ∃ c : UInt8, c = a0.data.toList[n] := ⟨_, rfl⟩
      rw [← hc] at hcell
      have HC := Aside0.mk (show ascii_Lower.part a0.data.toList (n + 1) = (ascii_Lower.part a0.data.toList n).set n (ascii_lowB c) from by rw [hc]; exact (ascii_Lower.part_succ _ hl).symm)
      clear hc
      have HL := Aside0.mk hl
      have HP := Aside0.mk hp
      clear hl hp
      go_wp2_with (go_at_call 19; refine (ascii_low.calls _ _ _ (ascii_lowB_eq _)).mono ?_; rintro e w' ⟨rfl, ⟨nd, rfl⟩⟩)
      go_roundw
      case rel =>
        refine ⟨n + 1, by omega, by go_num, ⟨?_⟩, ⟨?_⟩⟩
        · rw [HC.out]
          exact (HM.out.below (pw_below_drewN (Below.refl _ _) _)).set HP.out _
        · exact below_set (pw_below_drewN HB.out _) (Nat.le_refl _)
      case measure => simp [intOf]; omega
    · have hback : (convert 34 9 (.slice (some ⟨w.heap.size, 0, none⟩) a0.size (grownCap w a0.size 0 5))).run Tryd.prog wr = .ok (.string ⟨(a0.data.toList.map ascii_lowB).toArray⟩) wr := by
        have hn2 : n = a0.data.toList.length := by rw [HSZ.out]; omega
        have h1 := HM.out.conv_back Tryd.underlying34 Tryd.underlying5 Tryd.underlying9 (grownCap w a0.size 0 5)
        rw [ascii_Lower.part_length, HSZ.out] at h1
        rw [h1]
        unfold ascii_Lower.part
        rw [hn2, List.take_length, List.drop_length, List.append_nil]
      go_wp2
      go_ret
      exact ⟨rfl, HB.out⟩

/-! ### ascii_Same: function 9 -/
def ascii_Same.f (a0 : ByteArray) (a1 : ByteArray) : Option (Bool) := if (a0.size : Int) = (a1.size : Int) then ((ascii_Lower.f a0).bind fun t101 => ((ascii_Lower.f a1).bind fun t102 => (some (t101.toList == t102.toList)))) else (some false)
set_option maxHeartbeats 8000000 in
set_option maxRecDepth 100000 in
theorem ascii_Same.calls (a0 : ByteArray) (a1 : ByteArray) (r : Bool) (w : World) (h : ascii_Same.f a0 a1 = some r) :
    Calls Tryd.prog 9 #[.string a0, .string a1] w fun e w' => e = .returned (.bool r) ∧ Below w.heap.size w w' := by
  have HB := Aside0.mk (Below.refl w.heap.size w)
  have H : (if (a0.size : Int) = (a1.size : Int) then ((ascii_Lower.f a0).bind fun t101 => ((ascii_Lower.f a1).bind fun t102 => (some (t101.toList == t102.toList)))) else (some false)) = some r := h
  clear h
  by_cases c3 : (a0.size : Int) = (a1.size : Int)
  · rw [if_pos c3] at H
    have c3b0 : ((a0.size : Int) == (a1.size : Int)) = true := beq_iff_eq.mpr c3
    have c3b1 : ((a0.size : Int) != (a1.size : Int)) = false := bne_eq_false_iff_eq.mpr c3
    have c3b2 : (a0.size == a1.size) = true := by first | simpa using c3 | (simp at c3 ⊢; omega)
    clear c3
    replace H := Option.bind_eq_some_iff.mp H
    obtain ⟨t101, A40, H⟩ := H
    replace H : ((ascii_Lower.f a1).bind fun t102 => (some (t101.toList == t102.toList))) = some r := H
    have A4 := Aside0.mk A40
    clear A40
    replace H := Option.bind_eq_some_iff.mp H
    obtain ⟨t102, A50, H⟩ := H
    replace H : (some (t101.toList == t102.toList)) = some r := H
    have A5 := Aside0.mk A50
    clear A50
    obtain rfl := Option.some.inj H
    go_enter Tryd.func9, Tryd.ntmps9
    go_wp2_with (first | (go_at_call 7; (with_reducible refine (ascii_Lower.calls a0 t101 _ A4.out).mono ?_); rintro e w6 ⟨rfl, hb⟩; have n0_ := Aside0.mk (below_step (by repeat (first | (with_reducible first | exact HB.out | apply below_alloc | apply pw_below_drewN | apply below_drew1) | exact HB.out)) hb); clear HB; have HB := n0_; clear n0_; (try clear hb); (try clear hb2); (try clear hk); (try clear hi)) | (go_at_call 7; (with_reducible refine (ascii_Lower.calls a1 t102 _ A5.out).mono ?_); rintro e w7 ⟨rfl, hb⟩; have n0_ := Aside0.mk (below_step (by repeat (first | (with_reducible first | exact HB.out | apply below_alloc | apply pw_below_drewN | apply below_drew1) | exact HB.out)) hb); clear HB; have HB := n0_; clear n0_; (try clear hb); (try clear hb2); (try clear hk); (try clear hi)))
    go_ret
    exact ⟨by first | rfl | (simp [errW_none, errW_some] <;> rfl) | (simp [*, errW_none, errW_some] <;> rfl), by repeat (first | (with_reducible first | exact HB.out | apply below_alloc | apply pw_below_drewN | apply below_drew1) | exact HB.out)⟩
  · rw [if_neg c3] at H
    have c3b0 : ((a0.size : Int) == (a1.size : Int)) = false := beq_eq_false_iff_ne.mpr c3
    have c3b1 : ((a0.size : Int) != (a1.size : Int)) = true := bne_iff_ne.mpr c3
    have c3b2 : (a0.size == a1.size) = false := by first | simpa using c3 | (simp at c3 ⊢; omega)
    obtain rfl := Option.some.inj H
    go_enter Tryd.func9, Tryd.ntmps9
    go_wp2
    go_ret
    exact ⟨by first | rfl | (simp [errW_none, errW_some] <;> rfl) | (simp [*, errW_none, errW_some] <;> rfl), by repeat (first | (with_reducible first | exact HB.out | apply below_alloc | apply pw_below_drewN | apply below_drew1) | exact HB.out)⟩

end Go.Proofs.YtgbpmhkaobjnpaaDoor.Q
