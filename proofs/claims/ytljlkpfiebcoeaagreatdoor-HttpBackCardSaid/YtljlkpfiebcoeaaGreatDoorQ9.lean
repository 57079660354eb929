-- printed by a program of the session's own; Lean checks it
import Derived.Test.YtljlkpfiebcoeaaGreatDoorQ0
import Derived.Test.YtljlkpfiebcoeaaGreatDoorQ4
import Derived.Test.YtljlkpfiebcoeaaGreatDoorQ8
namespace Go.Proofs.YtljlkpfiebcoeaaGreatDoor.Q
open Go.RowKit Go.Proofs.YtljlkpfiebcoeaaGreatDoorW.PrintWords Go.Proofs.YtljlkpfiebcoeaaGreatDoorW.PrintLast Go.Proofs.YtljlkpfiebcoeaaGreatDoorW.PrintMore
attribute [local go_sem] max2_int min2_int max_two min_two max_three min_three max_four min_four   -- for this text's walks alone
set_option linter.unusedVariables false
set_option linter.unusedSimpArgs false

/-! ### percent_Mark: function 88 -/
def percent_Mark.hex : List UInt8 := [48, 49, 50, 51, 52, 53, 54, 55, 56, 57, 65, 66, 67, 68, 69, 70]
def percent_Mark.one (free : ByteArray) (c : UInt8) : List UInt8 := if percent_isPlain.f (c.toNat : Int) = some true ∨ 0 ≤ Lib.indexByte free.data.toList c then [c] else [37, percent_Mark.hex.getD (c.toNat / 16) 0, percent_Mark.hex.getD (c.toNat % 16) 0]
def percent_Mark.f (a0 : ByteArray) (a1 : ByteArray) : Option (ByteArray) := if a0.size ≤ 1000000000 then (some ⟨(a0.data.toList.flatMap (percent_Mark.one a1)).toArray⟩) else (none)
theorem percent_Mark.plain (c : UInt8) : ∃ b, percent_isPlain.f (c.toNat : Int) = some b := by
  have key : ∀ x : Fin 256, (percent_isPlain.f ((x.val : Nat) : Int)).isSome = true := by decide +kernel
  exact Option.isSome_iff_exists.1 (key ⟨c.toNat, c.toNat_lt⟩)
theorem percent_Mark.len (free : ByteArray) (l : List UInt8) : (l.flatMap (percent_Mark.one free)).length ≤ 3 * l.length := by
  induction l with
  | nil => simp
  | cons c l ih =>
    rw [List.flatMap_cons, List.length_append, List.length_cons]
    have : (percent_Mark.one free c).length ≤ 3 := by unfold percent_Mark.one; split <;> simp
    omega
theorem percent_Mark.snoc (free : ByteArray) (l : List UInt8) {n : Nat} (h : n < l.length) : (l.take (n + 1)).flatMap (percent_Mark.one free) = (l.take n).flatMap (percent_Mark.one free) ++ percent_Mark.one free l[n] := by
  rw [List.take_succ_eq_append_getElem h, List.flatMap_append]
  simp
theorem percent_Mark.and15 (c : UInt8) : Go.bits .and .u8 ((c.toNat : Nat) : Int) 15 = ((c.toNat % 16 : Nat) : Int) := by
  have key : ∀ x : Fin 256, Go.bits .and .u8 ((x.val : Nat) : Int) 15 = ((x.val % 16 : Nat) : Int) := by decide +kernel
  exact key ⟨c.toNat, c.toNat_lt⟩
theorem percent_Mark.hex_at (k : Nat) (h : k < (⟨#[48, 49, 50, 51, 52, 53, 54, 55, 56, 57, 65, 66, 67, 68, 69, 70]⟩ : ByteArray).size) : (⟨#[48, 49, 50, 51, 52, 53, 54, 55, 56, 57, 65, 66, 67, 68, 69, 70]⟩ : ByteArray)[k] = percent_Mark.hex.getD k 0 := by
  have key : ∀ k : Fin 16, (⟨#[48, 49, 50, 51, 52, 53, 54, 55, 56, 57, 65, 66, 67, 68, 69, 70]⟩ : ByteArray)[k.val]'(k.isLt) = percent_Mark.hex.getD k.val 0 := by decide +kernel
  exact key ⟨k, h⟩
set_option maxHeartbeats 2000000 in
set_option maxRecDepth 100000 in
theorem percent_Mark.calls (a0 : ByteArray) (a1 : ByteArray) (r : ByteArray) (w : World) (h : percent_Mark.f a0 a1 = some r) :
    Calls Tryz.prog 88 #[.string a0, .string a1] w fun e w' => e = .returned (.string r) ∧ Below w.heap.size w w' := by
  unfold percent_Mark.f at h
  by_cases hmax : a0.size ≤ 1000000000
  case neg => rw [if_neg hmax] at h; cases h
  rw [if_pos hmax] at h
  obtain rfl := Option.some.inj h
  clear h
  have hsz : a0.data.toList.length = a0.size := by rw [Array.length_toList]; rfl
  have HSZ := Aside0.mk hsz
  clear hsz
  go_enter Tryz.func88, Tryz.ntmps88
  go_wp2
  go_loopw [10] (fun j wr => ∃ n : Nat, n ≤ a0.size ∧ j = .int .i64 n ∧ Aside0 (Go.Proofs.YtljlkpfiebcoeaaGreatDoor.Build.Holds w.heap.size w.heap.size ((a0.data.toList.take n).flatMap (percent_Mark.one a1)) wr) ∧ Aside0 (Below w.heap.size w wr)) (fun j _ => a0.size - (intOf j).toNat)
  case atStart =>
    exact ⟨0, Nat.zero_le _, rfl, ⟨Go.Proofs.YtljlkpfiebcoeaaGreatDoor.Build.Holds.new w⟩, ⟨below_alloc (Below.refl _ _) _⟩⟩
  case round =>
    obtain ⟨n, hn, rfl, HI, HB⟩ := hrel
    by_cases hlt : n < a0.size
    · have hl : n < a0.data.toList.length := by rw [HSZ.out]; exact hlt
      have HS := Aside0.mk (show (a0.data.toList.take (n + 1)).flatMap (percent_Mark.one a1) = (a0.data.toList.take n).flatMap (percent_Mark.one a1) ++ percent_Mark.one a1 (a0[n]'hlt) from percent_Mark.snoc a1 a0.data.toList hl)
      obtain ⟨b, hb⟩ := percent_Mark.plain (a0[n]'hlt)
      have HP := Aside0.mk hb
      have HLEN := Aside0.mk (show ((a0.data.toList.take n).flatMap (percent_Mark.one a1)).length + 1 ≤ 140737488355328 from by
        have h1 := percent_Mark.len a1 (a0.data.toList.take n)
        rw [List.length_take] at h1
        omega)
      have HLEN2 := Aside0.mk (show ((a0.data.toList.take n).flatMap (percent_Mark.one a1) ++ [(37 : UInt8)]).length + 1 ≤ 140737488355328 from by
        have h1 := HLEN.out
        have h2 := percent_Mark.len a1 (a0.data.toList.take n)
        rw [List.length_take] at h2
        rw [List.length_append, List.length_singleton]
        omega)
      have HLEN3 := Aside0.mk (fun (x : UInt8) => show ((a0.data.toList.take n).flatMap (percent_Mark.one a1) ++ [(37 : UInt8)] ++ [x]).length + 1 ≤ 140737488355328 from by
        have h2 := percent_Mark.len a1 (a0.data.toList.take n)
        rw [List.length_take] at h2
        rw [List.length_append, List.length_append, List.length_singleton, List.length_singleton]
        omega)
      clear hb hl
      go_wp2_with fail
      refine (percent_isPlain.calls _ b _ HP.out).mono ?_
      rintro e w' ⟨rfl, ⟨nd, rfl⟩⟩
      have HI1 := Aside0.mk (HI.out.below (pw_below_drewN (Below.refl _ _) nd))
      have HB1 := Aside0.mk (pw_below_drewN HB.out nd)
      clear HI HB
      cases b with
      | true =>
        go_wp2_with fail
        refine (Go.Proofs.YtljlkpfiebcoeaaGreatDoor.Build.write _ _ _ (a0[n]'hlt) _ HI1.out HLEN.out).mono ?_
        rintro e w2 ⟨rfl, hh, hb2⟩
        have HI2 := Aside0.mk hh
        have HB2 := Aside0.mk (HB1.out.trans hb2)
        clear hh hb2 HB1 HI1
        go_wp2_with fail
        go_roundw
        case rel =>
          refine ⟨n + 1, by omega, by go_num, ⟨?_⟩, HB2⟩
          rw [HS.out]
          have e1 : percent_Mark.one a1 (a0[n]'hlt) = [a0[n]'hlt] := by unfold percent_Mark.one; rw [if_pos (.inl HP.out)]
          rw [e1]
          exact HI2.out
        case measure => simp [intOf]; omega
      | false =>
        go_wp2_with fail
        refine (Tryz.strings_IndexByte a1 (((a0[n]'hlt).toNat : Nat) : Int) _).mono ?_
        rintro e w' ⟨rfl, rfl⟩
        rw [show (((a0[n]'hlt).toNat : Nat) : Int).toNat.toUInt8 = a0[n]'hlt from by simp]
        obtain ⟨i, hi⟩ : ∃ i : Int, i = Lib.indexByte a1.data.toList (a0[n]'hlt) := ⟨_, rfl⟩
        rw [← hi]
        have HX := Aside0.mk hi
        clear hi
        by_cases h0 : 0 ≤ i
        · go_wp2_with fail
          refine (Go.Proofs.YtljlkpfiebcoeaaGreatDoor.Build.write _ _ _ (a0[n]'hlt) _ HI1.out HLEN.out).mono ?_
          rintro e w2 ⟨rfl, hh, hb2⟩
          have HI2 := Aside0.mk hh
          have HB2 := Aside0.mk (HB1.out.trans hb2)
          clear hh hb2 HB1 HI1
          go_wp2_with fail
          go_roundw
          case rel =>
            refine ⟨n + 1, by omega, by go_num, ⟨?_⟩, HB2⟩
            rw [HS.out]
            have e1 : percent_Mark.one a1 (a0[n]'hlt) = [a0[n]'hlt] := by unfold percent_Mark.one; rw [if_pos (.inr (by rw [← HX.out]; exact h0))]
            rw [e1]
            exact HI2.out
          case measure => simp [intOf]; omega
        · have h1 : ¬ i ≥ 0 := h0
          go_wp2_with fail
          refine (Go.Proofs.YtljlkpfiebcoeaaGreatDoor.Build.write _ _ _ 37 _ HI1.out HLEN.out).mono ?_
          rintro e w2 ⟨rfl, hh, hb2⟩
          have HI2 := Aside0.mk hh
          have HB2 := Aside0.mk (HB1.out.trans hb2)
          clear hh hb2 HB1 HI1
          have h16 : 0 ≤ (((a0[n]'hlt).toNat : Nat) : Int) / 16 ∧ (((a0[n]'hlt).toNat : Nat) : Int) / 16 < 16 := by have := (a0[n]'hlt).toNat_lt; omega
          have h16b := eq_true h16
          have hand := percent_Mark.and15 (a0[n]'hlt)
          go_wp2_with fail
          refine (Go.Proofs.YtljlkpfiebcoeaaGreatDoor.Build.write _ _ _ _ _ HI2.out HLEN2.out).mono ?_
          rintro e w3 ⟨rfl, hh, hb3⟩
          have HI3 := Aside0.mk hh
          have HB3 := Aside0.mk (HB2.out.trans hb3)
          clear hh hb3 HB2 HI2
          have h15 : 0 ≤ (((a0[n]'hlt).toNat % 16 : Nat) : Int) ∧ (((a0[n]'hlt).toNat % 16 : Nat) : Int) < 16 := by omega
          have h15b := eq_true h15
          go_wp2_with fail
          refine (Go.Proofs.YtljlkpfiebcoeaaGreatDoor.Build.write _ _ _ _ _ HI3.out (HLEN3.out _)).mono ?_
          rintro e w4 ⟨rfl, hh, hb4⟩
          have HI4 := Aside0.mk hh
          have HB4 := Aside0.mk (HB3.out.trans hb4)
          clear hh hb4 HB3 HI3
          go_wp2_with fail
          go_roundw
          case rel =>
            refine ⟨n + 1, by omega, by go_num, ⟨?_⟩, HB4⟩
            rw [HS.out]
            have e1 : percent_Mark.one a1 (a0[n]'hlt) = [37, percent_Mark.hex.getD ((a0[n]'hlt).toNat / 16) 0, percent_Mark.hex.getD ((a0[n]'hlt).toNat % 16) 0] := by
              unfold percent_Mark.one
              rw [if_neg (fun q => q.elim (fun q => by rw [HP.out] at q; cases q) (fun q => by rw [← HX.out] at q; omega))]
            rw [e1]
            have := HI4.out
            simp only [percent_Mark.hex_at, List.append_assoc, List.cons_append, List.nil_append] at this
            exact this
          case measure => simp [intOf]; omega
    · go_wp2_with fail
      refine (Go.Proofs.YtljlkpfiebcoeaaGreatDoor.Build.told _ _ _ _ HI.out).mono ?_
      rintro e w' ⟨rfl, hbw⟩
      go_wp2_with fail
      go_ret
      refine ⟨?_, HB.out.trans hbw⟩
      rw [List.take_of_length_le (by rw [HSZ.out]; omega)]
      rfl

/-! ### percent_part: function 66 -/
def percent_part.f (a0 : ByteArray) : Option (ByteArray) := (percent_Mark.f a0 (⟨#[32]⟩ : ByteArray)).bind fun t250 => ((strings_ReplaceAll.f t250 (⟨#[32]⟩ : ByteArray) (⟨#[43]⟩ : ByteArray)).bind fun t251 => (some t251))
set_option maxHeartbeats 8000000 in
set_option maxRecDepth 100000 in
theorem percent_part.calls (a0 : ByteArray) (r : ByteArray) (w : World) (h : percent_part.f a0 = some r) (TT_ : Aside0 (Go.Proofs.YtljlkpfiebcoeaaGreatDoor.Tabs w) := by first | exact TT_ | exact ⟨Go.Proofs.YtljlkpfiebcoeaaGreatDoor.Tabs.below TT_.out (by repeat (first | (with_reducible first | exact HB.out | apply below_alloc | apply pw_below_drewN | apply below_drew1) | exact HB.out | (refine below_set ?_ ?_; rotate_left; exact (Aside0.out (by assumption)))))⟩) :
    Calls Tryz.prog 66 #[.string a0] w fun e w' => e = .returned (.string r) ∧ Below w.heap.size w w' := by
  have HB := Aside0.mk (Below.refl w.heap.size w)
  have H : ((percent_Mark.f a0 (⟨#[32]⟩ : ByteArray)).bind fun t250 => ((strings_ReplaceAll.f t250 (⟨#[32]⟩ : ByteArray) (⟨#[43]⟩ : ByteArray)).bind fun t251 => (some t251))) = some r := h
  clear h
  replace H := Option.bind_eq_some_iff.mp H
  obtain ⟨t250, A20, H⟩ := H
  replace H : ((strings_ReplaceAll.f t250 (⟨#[32]⟩ : ByteArray) (⟨#[43]⟩ : ByteArray)).bind fun t251 => (some t251)) = some r := H
  have A2 := Aside0.mk A20
  clear A20
  replace H := Option.bind_eq_some_iff.mp H
  obtain ⟨t251, A30, H⟩ := H
  replace H : (some t251) = some r := H
  have A3 := Aside0.mk A30
  clear A30
  obtain rfl := Option.some.inj H
  go_enter Tryz.func66, Tryz.ntmps66
  go_wp2_with (first | ((with_reducible refine gate_callee (f := 88) rfl ?_); refine goesL_ (some 4) rfl rfl Tryz.func88 (by kernel_rfl) rfl #[.string a0, .string (⟨#[32]⟩ : ByteArray)] rfl (by (try simp only [List.map_toArray, List.map_cons, List.map_nil]); first | done | rfl | (simp only [List.length_drop, List.length_take]; rfl)) ?_; (with_reducible refine (percent_Mark.calls a0 (⟨#[32]⟩ : ByteArray) t250 _ A2.out).mono ?_); rintro e w4 ⟨rfl, hb⟩; refine ⟨_, rfl, ?_⟩; have n0_ := Aside0.mk (below_step (by repeat (first | (with_reducible first | exact HB.out | apply below_alloc | apply pw_below_drewN | apply below_drew1) | exact HB.out)) hb); clear HB; have HB := n0_; clear n0_; (try clear hb); (try clear hb2); (try clear hk); (try clear hi)) | ((with_reducible refine gate_callee (f := 87) rfl ?_); refine goesL_ (some 5) rfl rfl Tryz.func87 (by kernel_rfl) rfl #[.string t250, .string (⟨#[32]⟩ : ByteArray), .string (⟨#[43]⟩ : ByteArray)] rfl (by (try simp only [List.map_toArray, List.map_cons, List.map_nil]); first | done | rfl | (simp only [List.length_drop, List.length_take]; rfl)) ?_; (with_reducible refine (strings_ReplaceAll.calls t250 (⟨#[32]⟩ : ByteArray) (⟨#[43]⟩ : ByteArray) t251 _ A3.out).mono ?_); rintro e w5 ⟨rfl, hb⟩; refine ⟨_, rfl, ?_⟩; have n0_ := Aside0.mk (below_step (by repeat (first | (with_reducible first | exact HB.out | apply below_alloc | apply pw_below_drewN | apply below_drew1) | exact HB.out)) hb); clear HB; have HB := n0_; clear n0_; (try clear hb); (try clear hb2); (try clear hk); (try clear hi)))
  go_ret
  exact ⟨by first | rfl | (simp [errW_none, errW_some] <;> rfl) | (simp [*, errW_none, errW_some] <;> rfl), by repeat (first | (with_reducible first | exact HB.out | apply below_alloc | apply pw_below_drewN | apply below_drew1) | exact HB.out)⟩

/-! ### strings_Join: function 67 -/
def strings_Join.f (l0 : List ByteArray) (a1 : ByteArray) : Option (ByteArray) := if l0.length ≤ 140737488355328 then (if (Lib.join (l0.map (·.data.toList)) a1.data.toList).length ≤ 140737488355328 then (some ⟨(Lib.join (l0.map (·.data.toList)) a1.data.toList).toArray⟩) else (none)) else (none)
theorem strings_Join.calls (A0 : Option Addr) (c0 : Nat) (l0 : List ByteArray) (a1 : ByteArray) (r : ByteArray) (w : World) (hr0 : Kd.C Kd.string w A0 l0.length l0) (hc0 : l0.length ≤ c0) (h : strings_Join.f l0 a1 = some r) :
    Calls Tryz.prog 67 #[.slice A0 l0.length c0, .string a1] w fun e w' => e = .returned (.string r) ∧ Below w.heap.size w w' := by
  unfold strings_Join.f at h
  by_cases h1 : l0.length ≤ 140737488355328
  case neg =>
    rw [if_neg h1] at h
    cases h
  rw [if_pos h1] at h
  by_cases h2 : (Lib.join (l0.map (·.data.toList)) a1.data.toList).length ≤ 140737488355328
  case neg =>
    rw [if_neg h2] at h
    cases h
  rw [if_pos h2] at h
  obtain rfl := Option.some.inj h
  rcases l0 with _ | ⟨x, xs⟩
  · refine (Tryz.strings_Join_none A0 c0 a1 w).mono ?_
    rintro e w' ⟨rfl, rfl⟩
    exact ⟨rfl, Below.refl _ _⟩
  · obtain ⟨ad, rfl, hcell⟩ := Kd.C_strings_cells hr0 (by simp)
    obtain ⟨b, o, sp⟩ := ad
    have hsp : sp = none := by
      have := addr_of_cell (hcell 0 x rfl)
      unfold Addr.add at this
      cases sp with
      | none => rfl
      | some z => simp at this
    subst hsp
    have hc : ∀ (j : Nat) y, (x :: xs)[j]? = some y → w.cell? (Addr.mk b (o + j) none) = some (.string y) := by
      intro j y hj
      have := hcell j y hj
      have e1 : (Addr.mk b o none).add j = Addr.mk b (o + j) none := by unfold Addr.add; split <;> simp_all
      rwa [e1] at this
    refine (Tryz.strings_Join b o c0 (x :: xs) a1 w hc ?_ h1 hc0 h2).mono ?_
    · exact World.block_lt_of_cell? w _ (hc 0 x rfl)
    · rintro e w' ⟨rfl, hb⟩
      exact ⟨rfl, hb⟩

/-! ### percent_Form: function 31 -/
def percent_Form.l0 : Nat → List ByteArray → List (S105) → Int → Int → Option (ByteArray)
  | 0, _, _, _, _ => none
  | k + 1, x3, x6, x7, x8 => if x8 < x7 then (if 0 ≤ x8 then (if x8 < (x6.length : Int) then ((percent_part.f ((rd_T105 x6 x8).f0)).bind fun t254 => (if t254.size + 1 ≤ 9223372036854775807 then ((percent_part.f ((rd_T105 x6 x8).f1)).bind fun t255 => (if (t254 ++ (⟨#[61]⟩ : ByteArray)).size + t255.size ≤ 9223372036854775807 then (if x3.length < 8796093022208 then (percent_Form.l0 k (x3 ++ [(t254 ++ (⟨#[61]⟩ : ByteArray)) ++ t255]) x6 x7 (wrap64 (x8 + 1))) else (none)) else (none))) else (none))) else (none)) else (none)) else ((strings_Join.f x3 (⟨#[38]⟩ : ByteArray)).bind fun t259 => (some t259))
def percent_Form.f (k : Nat) (l0 : List (S105)) : Option (ByteArray) := percent_Form.l0 k ([] : List ByteArray) l0 (l0.length : Int) 0
theorem percent_Form.mono_l : ∀ k, (∀ y0 y1 y2 y3, LeO (percent_Form.l0 k y0 y1 y2 y3) (percent_Form.l0 (k + 1) y0 y1 y2 y3))
  | 0 => fun _ _ _ _ r h => by simp [percent_Form.l0] at h
  | k + 1 => by
    have ih0 := percent_Form.mono_l k
    · intro y0 y1 y2 y3
      unfold percent_Form.l0
      repeat' first
      | (with_reducible exact ih0 _ _ _ _)
      | (with_reducible exact LeO.refl _)
      | (with_reducible exact LeO.none _)
      | (with_reducible refine LeO.ite ?_ ?_)
      | (with_reducible refine LeO.bind ?_ (fun _ => ?_))
      | exact ih0 _ _ _ _
      | exact LeO.none _
      | refine LeO.ite ?_ ?_
      | refine LeO.bind ?_ (fun _ => ?_)
theorem percent_Form.mono : ∀ a0 k, LeO (percent_Form.f k a0) (percent_Form.f (k + 1) a0) := by
  intro a0 k
  have ih0 := percent_Form.mono_l k
  unfold percent_Form.f
  repeat' first
      | (with_reducible exact ih0 _ _ _ _)
      | (with_reducible exact LeO.refl _)
      | (with_reducible exact LeO.none _)
      | (with_reducible refine LeO.ite ?_ ?_)
      | (with_reducible refine LeO.bind ?_ (fun _ => ?_))
      | exact ih0 _ _ _ _
      | exact LeO.none _
      | refine LeO.ite ?_ ?_
      | refine LeO.bind ?_ (fun _ => ?_)
def percent_Form.T5 : Bool × List (List Nat × List Nat) := (true, [([], []), ([], []), ([1], [1]), ([2], [2]), ([3], [3]), ([], []), ([5], [5]), ([6, 3], [6]), ([4, 7], [4, 7]), ([8], [8]), ([0, 9, 7], [0, 9]), ([10, 10, 0, 1, 2, 3, 4, 5, 6, 7, 8, 9, 10], [0, 10])])
def percent_Form.B5 : List Nat := [0, 0, 2, 6, 14, 0, 32, 110, 254, 510, 1023, 2047]
theorem percent_Form.tab5 : rtab .any (opsOf Tryz.f31 5) = percent_Form.T5 := by kernel_rfl
theorem percent_Form.bits5 : waitsOk percent_Form.T5.2 percent_Form.B5 = true := by kernel_rfl
set_option maxHeartbeats 8000000 in
set_option maxRecDepth 100000 in
theorem percent_Form.calls (k : Nat) (A0 : Option Addr) (c0 : Nat) (l0 : List (S105)) (r : ByteArray) (w : World) (hr0 : Kd.C k105 w A0 l0.length l0) (hc0 : l0.length ≤ c0) (h : percent_Form.f k l0 = some r) (TT_ : Aside0 (Go.Proofs.YtljlkpfiebcoeaaGreatDoor.Tabs w) := by first | exact TT_ | exact ⟨Go.Proofs.YtljlkpfiebcoeaaGreatDoor.Tabs.below TT_.out (by repeat (first | (with_reducible first | exact HB.out | apply below_alloc | apply pw_below_drewN | apply below_drew1) | exact HB.out | (refine below_set ?_ ?_; rotate_left; exact (Aside0.out (by assumption)))))⟩) :
    Calls Tryz.prog 31 #[.slice A0 l0.length c0] w fun e w' => e = .returned (.string r) ∧ Below w.heap.size w w' := by
  have hu105 := Tryz.underlying105
  have HR0 := Aside0.mk hr0
  have HC0 := Aside0.mk hc0
  clear hr0 hc0
  have HB := Aside0.mk (Below.refl w.heap.size w)
  have H : (percent_Form.l0 k ([] : List ByteArray) l0 (l0.length : Int) 0) = some r := h
  clear h
  have H' := Aside0.mk H
  clear H
  go_enter Tryz.func31, Tryz.ntmps31
  go_wp2
  go_loopg [3, 8] k (fun kq v3 v8 w' => ∃ (x3_1 : List ByteArray) (x8_1 : Int), v8 = .int .i64 x8_1 ∧ Aside0 (percent_Form.l0 kq x3_1 l0 (l0.length : Int) x8_1 = some r) ∧ Aside0 (kq ≤ k) ∧ Aside0 (Kd.R Kd.string 9 w' w.heap.size (fun _ => True) v3 x3_1) ∧ Aside0 (Below w.heap.size w w'))
  case atStart => exact ⟨(([] : List ByteArray)), (0), (by first | rfl | (simp; done) | (simp [*]; done) | (simp; unfold wrap64; omega)), H', ⟨Nat.le_refl _⟩, ⟨by first | exact Kd.R_nil _ _ _ _ _ | exact Kd.N_nil _ _ _ _ _ | exact Kd.V_nil _ _ _ _ _ | exact Kd.Q_nil _ _ _ _ _ | exact Kd.S_nil _ _ _ _ _⟩, ⟨by repeat (first | (with_reducible first | exact HB.out | apply below_alloc | apply pw_below_drewN | apply below_drew1) | exact HB.out)⟩⟩
  case round =>
    clear H'
    obtain ⟨x3_1, x8_1, rfl, HA, HK1, HO_3, HB⟩ := hrel
    cases gk with
    | zero => exact absurd HA.out (by simp [percent_Form.l0])
    | succ k1 =>
      have H := HA.out
      clear HA
      simp only [percent_Form.l0] at H
      by_cases c2 : x8_1 < (l0.length : Int)
      · rw [if_pos c2] at H
        have c2b0 : decide (x8_1 < (l0.length : Int)) = true := decide_eq_true c2
        clear c2
        by_cases c3 : 0 ≤ x8_1
        · rw [if_pos c3] at H
          have c3b0 : decide (0 ≤ x8_1) = true := decide_eq_true c3
          clear c3
          by_cases c4 : x8_1 < (l0.length : Int)
          · rw [if_pos c4] at H
            have c4b0 : decide (x8_1 < (l0.length : Int)) = true := decide_eq_true c4
            clear c4
            replace H := Option.bind_eq_some_iff.mp H
            obtain ⟨t254, A50, H⟩ := H
            replace H : (if t254.size + 1 ≤ 9223372036854775807 then ((percent_part.f ((rd_T105 l0 x8_1).f1)).bind fun t255 => (if (t254 ++ (⟨#[61]⟩ : ByteArray)).size + t255.size ≤ 9223372036854775807 then (if x3_1.length < 8796093022208 then (percent_Form.l0 k1 (x3_1 ++ [(t254 ++ (⟨#[61]⟩ : ByteArray)) ++ t255]) l0 (l0.length : Int) (wrap64 (x8_1 + 1))) else (none)) else (none))) else (none)) = some r := H
            have A5 := Aside0.mk A50
            clear A50
            by_cases c6 : t254.size + 1 ≤ 9223372036854775807
            · rw [if_pos c6] at H
              have c6b0 := eq_true c6
              have c6b1 : decide (t254.size + 1 ≤ 9223372036854775807) = true := decide_eq_true c6
              try have c6b2 : (9223372036854775807 < t254.size + 1) = False := eq_false (Nat.not_lt.2 c6)
              replace H := Option.bind_eq_some_iff.mp H
              obtain ⟨t255, A70, H⟩ := H
              replace H : (if (t254 ++ (⟨#[61]⟩ : ByteArray)).size + t255.size ≤ 9223372036854775807 then (if x3_1.length < 8796093022208 then (percent_Form.l0 k1 (x3_1 ++ [(t254 ++ (⟨#[61]⟩ : ByteArray)) ++ t255]) l0 (l0.length : Int) (wrap64 (x8_1 + 1))) else (none)) else (none)) = some r := H
              have A7 := Aside0.mk A70
              clear A70
              by_cases c8 : (t254 ++ (⟨#[61]⟩ : ByteArray)).size + t255.size ≤ 9223372036854775807
              · rw [if_pos c8] at H
                have c8b0 := eq_true c8
                have c8b1 : decide ((t254 ++ (⟨#[61]⟩ : ByteArray)).size + t255.size ≤ 9223372036854775807) = true := decide_eq_true c8
                try have c8b2 : (9223372036854775807 < (t254 ++ (⟨#[61]⟩ : ByteArray)).size + t255.size) = False := eq_false (Nat.not_lt.2 c8)
                try have c8b8 : (9223372036854775807 < t254.size + 1 + t255.size) = False := eq_false (by have h_ := c8; rw [ByteArray.size_append, show (⟨#[61]⟩ : ByteArray).size = 1 from rfl] at h_; omega)
                by_cases c9 : x3_1.length < 8796093022208
                · rw [if_pos c9] at H
                  have LMc9 := Aside0.mk c9
                  clear c9
                  obtain ⟨y256, hy256⟩ : ∃ y_ : List ByteArray, y_ = (x3_1 ++ [(t254 ++ (⟨#[61]⟩ : ByteArray)) ++ t255]) := ⟨_, rfl⟩
                  replace H : (percent_Form.l0 k1 y256 l0 (l0.length : Int) (wrap64 (x8_1 + 1))) = some r := by first | (rw [hy256]; with_reducible exact H) | (have H2_ := (Option.bind_some _ _).symm.trans H; rw [hy256]; with_reducible exact H2_) | (have H2_ := (Option.bind_some _ _).symm.trans H; with_reducible exact H2_) | with_reducible exact H | (rw [hy256]; exact H) | exact H
                  have Ny256 := Aside0.mk hy256
                  clear hy256
                  have H' := Aside0.mk H
                  clear H
                  have p252 : 0 ≤ (x8_1 : Int) := of_decide_eq_true (by first | (with_reducible assumption) | assumption)
                  have q252 : x8_1 < (l0.length : Int) := of_decide_eq_true (by first | (with_reducible assumption) | assumption)
                  obtain ⟨ad252, e252, hx252_0, hx252_1⟩ := at_T105 HR0.out x8_1 p252 q252
                  cases e252
                  replace hx252_0 := (HB.out.cell (World.block_lt_of_cell? w _ hx252_0)).trans hx252_0
                  replace hx252_1 := (HB.out.cell (World.block_lt_of_cell? w _ hx252_1)).trans hx252_1
                  replace p252 := eq_true p252
                  replace q252 := eq_true q252
                  try go_wp2_with (first | ((with_reducible refine gate_dst (N := 5) rfl ?_); refine box_event ?hg (N := 5) ?hd (cs := #[.string (⟨#[]⟩ : ByteArray), .string (⟨#[]⟩ : ByteArray)]) (t := 105) ?hr ?_; (case hd => rfl); (case hg => rfl); (case hr => first | (go_simp; done) | (go_simp; rfl)); intro gb253 hg w10 hbox hb; have n0_ := Aside0.mk (Kd.R_below (by (with_reducible repeat (first | apply Kd.R_alloc | apply Kd.R_drewN | apply Kd.R_drew)); exact HO_3.out) hb); have n1_ := Aside0.mk (below_step (by repeat (first | (with_reducible first | exact HB.out | apply below_alloc | apply pw_below_drewN | apply below_drew1) | exact HB.out)) hb); have n2_ := Aside0.mk (hbox); have n3_ := Aside0.mk ((by rw [hg]; exact (below_size (by repeat (first | (with_reducible first | exact HB.out | apply below_alloc | apply pw_below_drewN | apply below_drew1) | exact HB.out))) : w.heap.size ≤ gb253)); have n4_ := Aside0.mk ((by rw [hg]; exact (below_size (by repeat (first | (with_reducible first | exact HB.out | apply below_alloc | apply pw_below_drewN | apply below_drew1) | exact HB.out))) : w.heap.size ≤ gb253)); clear HO_3; clear HB; have HO_3 := n0_; have HB := n1_; have BK253 := n2_; have GW253 := n3_; have GE253 := n4_; clear n0_ n1_ n2_ n3_ n4_; clear hb hbox hg; have hcz11_0 : w10.cell? ⟨gb253, 0, none⟩ = some (.string (⟨#[]⟩ : ByteArray)) := (blk_cell BK253.out 0).trans rfl; have hcz11_1 : w10.cell? ⟨gb253, 1, none⟩ = some (.string (⟨#[]⟩ : ByteArray)) := (blk_cell BK253.out 1).trans rfl; have hfz11_0 := blk_frozen BK253.out 0; have hfz11_1 := blk_frozen BK253.out 1))
                  have n0_ : Aside0 (Kd.R Kd.string 9 ((w10.setCell ⟨gb253, 0, none⟩ (.string ((rd_T105 l0 x8_1).f0))).setCell ⟨gb253, 1, none⟩ (.string ((rd_T105 l0 x8_1).f1))) w.heap.size (fun _ => True) u3 x3_1) := ⟨by (with_reducible repeat (first | apply Kd.R_alloc | apply Kd.R_drewN | apply Kd.R_drew)); exact Kd.R_mono (Kd.R_far (p := ⟨gb253, 1, none⟩) (Kd.R_far (p := ⟨gb253, 0, none⟩) (Kd.R_types HO_3.out BK253.out (by decide)) (fun _ hk => hk.2) (.string ((rd_T105 l0 x8_1).f0))) (fun _ hk => hk.2) (.string ((rd_T105 l0 x8_1).f1))) (fun _ hk => trivial)⟩
                  have n1_ : Aside0 (((w10.setCell ⟨gb253, 0, none⟩ (.string ((rd_T105 l0 x8_1).f0))).setCell ⟨gb253, 1, none⟩ (.string ((rd_T105 l0 x8_1).f1))).heap[gb253]? = some (.cells #[.string ((rd_T105 l0 x8_1).f0), .string ((rd_T105 l0 x8_1).f1)] 105 (0, 0))) := ⟨by (with_reducible repeat (first | refine blk_drewN ?_ _ | refine blk_drew ?_ | refine blk_alloc ?_ _)); refine blk_put (cs := #[.string ((rd_T105 l0 x8_1).f0), .string (⟨#[]⟩ : ByteArray)]) ?_ 1 _ rfl; (with_reducible repeat (first | refine blk_drewN ?_ _ | refine blk_drew ?_ | refine blk_alloc ?_ _)); refine blk_put (cs := #[.string (⟨#[]⟩ : ByteArray), .string (⟨#[]⟩ : ByteArray)]) ?_ 0 _ rfl; (with_reducible repeat (first | refine blk_drewN ?_ _ | refine blk_drew ?_ | refine blk_alloc ?_ _)); exact BK253.out⟩
                  have n2_ : Aside0 (Below w.heap.size w ((w10.setCell ⟨gb253, 0, none⟩ (.string ((rd_T105 l0 x8_1).f0))).setCell ⟨gb253, 1, none⟩ (.string ((rd_T105 l0 x8_1).f1)))) := ⟨by repeat (first | (with_reducible first | exact HB.out | apply below_alloc | apply pw_below_drewN | apply below_drew1 | refine below_set ?_ GE253.out) | exact HB.out)⟩
                  (try clear HO_3)
                  (try clear BK253)
                  (try clear HB)
                  generalize ((w10.setCell ⟨gb253, 0, none⟩ (.string ((rd_T105 l0 x8_1).f0))).setCell ⟨gb253, 1, none⟩ (.string ((rd_T105 l0 x8_1).f1))) = w12 at n0_ n1_ n2_ ⊢
                  have HO_3 := n0_
                  have BK253 := n1_
                  have HB := n2_
                  clear n0_ n1_ n2_
                  have n0_ := Aside0.mk (Kd.R_drew HO_3.out)
                  have n1_ := Aside0.mk (blk_drew BK253.out)
                  have n2_ := Aside0.mk (below_drew1 HB.out)
                  clear HO_3
                  clear BK253
                  clear HB
                  have HO_3 := n0_
                  have BK253 := n1_
                  have HB := n2_
                  clear n0_ n1_ n2_
                  refine start_ (n := 12) (S := fun w' => w'.cell? ⟨gb253, 0, none⟩ = some (.string ((rd_T105 l0 x8_1).f0)) ∧ w'.cell? ⟨gb253, 1, none⟩ = some (.string ((rd_T105 l0 x8_1).f1))) (ds := []) #[false, false, false, false, false, false, false, false, false, false, false, false] (by kernel_rfl) rfl rfl ⟨(blk_cell BK253.out 0).trans rfl, (blk_cell BK253.out 1).trans rfl⟩ (fun hHeld => ?_); refine with_tabW percent_Form.tab5 percent_Form.bits5 (fun HT_ HW_ => ?_)
                  generalize w12.drew = w13 at HO_3 BK253 HB hHeld ⊢
                  refine pure_ (i := 0) (N := some 12) (v := ?_) (a' := ?_) #[true, false, false, false, false, false, false, false, false, false, false, false] rfl rfl (any_of HT_.out (by kernel_rfl)) (fun _ _ _ h => h) (Or.inl ⟨by rfl, ?_⟩) ?_ ?_
                  rotate_left
                  · intro w'
                    go_simp
                    with_reducible rfl
                  rotate_left
                  · simp only [Act.put, List.setIfInBounds_toArray, List.set_cons_zero, List.set_cons_succ, i64_w, i32_w]
                    rfl
                  refine pure_ (i := 1) (N := some 13) (v := ?_) (a' := ?_) #[true, true, false, false, false, false, false, false, false, false, false, false] rfl rfl (any_of HT_.out (by kernel_rfl)) (fun _ _ _ h => h) (Or.inl ⟨by rfl, ?_⟩) ?_ ?_
                  rotate_left
                  · intro w'
                    go_simp
                    with_reducible rfl
                  rotate_left
                  · simp only [Act.put, List.setIfInBounds_toArray, List.set_cons_zero, List.set_cons_succ, i64_w, i32_w]
                    rfl
                  refine pure_ (i := 5) (N := some 17) (v := ?_) (a' := ?_) #[true, true, false, false, false, true, false, false, false, false, false, false] rfl rfl (any_of HT_.out (by kernel_rfl)) (fun _ _ _ h => h) (Or.inl ⟨by rfl, ?_⟩) ?_ ?_
                  rotate_left
                  · intro w'
                    go_simp
                    with_reducible rfl
                  rotate_left
                  · simp only [Act.put, List.setIfInBounds_toArray, List.set_cons_zero, List.set_cons_succ, i64_w, i32_w]
                    rfl
                  refine take_ (i := 2) (N := some 14) (v := ?_) (a' := ?_) #[true, true, true, false, false, true, false, false, false, false, false, false] rfl rfl (take_ofW HT_.out HW_.out (by kernel_rfl)) (fun _ _ _ h => h) (Or.inl ⟨by rfl, ?_⟩) hHeld ?_ ?_
                  rotate_left
                  · rintro w' ⟨s0, s1⟩
                    go_simp
                    with_reducible rfl
                  rotate_left
                  · simp only [Act.put, List.setIfInBounds_toArray, List.set_cons_zero, List.set_cons_succ, i64_w, i32_w]
                    rfl
                  refine take_ (i := 6) (N := some 18) (v := ?_) (a' := ?_) #[true, true, true, false, false, true, true, false, false, false, false, false] rfl rfl (take_ofW HT_.out HW_.out (by kernel_rfl)) (fun _ _ _ h => h) (Or.inl ⟨by rfl, ?_⟩) hHeld ?_ ?_
                  rotate_left
                  · rintro w' ⟨s0, s1⟩
                    go_simp
                    with_reducible rfl
                  rotate_left
                  · simp only [Act.put, List.setIfInBounds_toArray, List.set_cons_zero, List.set_cons_succ, i64_w, i32_w]
                    rfl
                  refine one_ (i := 3) (N := some 15) #[true, true, true, true, false, true, true, false, false, false, false, false] rfl rfl (one_of HT_.out (by kernel_rfl)) (by decide) (fun K hK => ?_)
                  refine goes_ Tryz.func66 (by kernel_rfl) rfl #[.string ((rd_T105 l0 x8_1).f0)] (by rfl) rfl rfl (by (try simp only [List.map_toArray, List.map_cons, List.map_nil]); first | done | rfl | (simp only [List.length_drop, List.length_take]; rfl)) ?_
                  with_reducible refine (percent_part.calls ((rd_T105 l0 x8_1).f0) t254 _ A5.out).mono ?_
                  rintro e w14 ⟨rfl, hb⟩
                  refine ⟨_, rfl, ?_⟩
                  have n0_ := Aside0.mk (Kd.R_below (by (with_reducible repeat (first | apply Kd.R_alloc | apply Kd.R_drewN | apply Kd.R_drew)); exact HO_3.out) hb)
                  have n1_ := Aside0.mk (blk_below (g := gb253) (o := .cells #[.string ((rd_T105 l0 x8_1).f0), .string ((rd_T105 l0 x8_1).f1)] 105 (0, 0)) (by (with_reducible repeat (first | refine blk_drewN ?_ _ | refine blk_drew ?_ | refine blk_alloc ?_ _)); exact BK253.out) hb)
                  have n2_ := Aside0.mk (below_step (by repeat (first | (with_reducible first | exact HB.out | apply below_alloc | apply pw_below_drewN | apply below_drew1 | refine below_set ?_ GE253.out) | exact HB.out)) hb)
                  clear HO_3
                  clear BK253
                  clear HB
                  have HO_3 := n0_
                  have BK253 := n1_
                  have HB := n2_
                  clear n0_ n1_ n2_
                  (try clear hb)
                  (try clear hb2)
                  (try clear hk)
                  (try clear hi)
                  refine hK.out _ _ ⟨(blk_cell BK253.out 0).trans rfl, (blk_cell BK253.out 1).trans rfl⟩ (fun hHeld => ?_)
                  clear hK K
                  refine norm_ (a' := ?_) ?_ ?_
                  rotate_left
                  · show Act.put _ (some 15) _ = _
                    simp only [Act.put, List.setIfInBounds_toArray, List.set_cons_zero, List.set_cons_succ, i64_w, i32_w]
                    rfl
                  refine pure_ (i := 4) (N := some 16) (v := ?_) (a' := ?_) #[true, true, true, true, true, true, true, false, false, false, false, false] rfl rfl (any_of HT_.out (by kernel_rfl)) (fun _ _ _ h => h) (Or.inl ⟨by rfl, ?_⟩) ?_ ?_
                  rotate_left
                  · intro w'
                    go_simp
                    with_reducible rfl
                  rotate_left
                  · simp only [Act.put, List.setIfInBounds_toArray, List.set_cons_zero, List.set_cons_succ, i64_w, i32_w]
                    rfl
                  refine one_ (i := 7) (N := some 19) #[true, true, true, true, true, true, true, true, false, false, false, false] rfl rfl (one_of HT_.out (by kernel_rfl)) (by decide) (fun K hK => ?_)
                  refine goes_ Tryz.func66 (by kernel_rfl) rfl #[.string ((rd_T105 l0 x8_1).f1)] (by rfl) rfl rfl (by (try simp only [List.map_toArray, List.map_cons, List.map_nil]); first | done | rfl | (simp only [List.length_drop, List.length_take]; rfl)) ?_
                  with_reducible refine (percent_part.calls ((rd_T105 l0 x8_1).f1) t255 _ A7.out).mono ?_
                  rintro e w15 ⟨rfl, hb⟩
                  refine ⟨_, rfl, ?_⟩
                  have n0_ := Aside0.mk (Kd.R_below (by (with_reducible repeat (first | apply Kd.R_alloc | apply Kd.R_drewN | apply Kd.R_drew)); exact HO_3.out) hb)
                  have n1_ := Aside0.mk (blk_below (g := gb253) (o := .cells #[.string ((rd_T105 l0 x8_1).f0), .string ((rd_T105 l0 x8_1).f1)] 105 (0, 0)) (by (with_reducible repeat (first | refine blk_drewN ?_ _ | refine blk_drew ?_ | refine blk_alloc ?_ _)); exact BK253.out) hb)
                  have n2_ := Aside0.mk (below_step (by repeat (first | (with_reducible first | exact HB.out | apply below_alloc | apply pw_below_drewN | apply below_drew1 | refine below_set ?_ GE253.out) | exact HB.out)) hb)
                  clear HO_3
                  clear BK253
                  clear HB
                  have HO_3 := n0_
                  have BK253 := n1_
                  have HB := n2_
                  clear n0_ n1_ n2_
                  (try clear hb)
                  (try clear hb2)
                  (try clear hk)
                  (try clear hi)
                  refine hK.out _ _ ⟨(blk_cell BK253.out 0).trans rfl, (blk_cell BK253.out 1).trans rfl⟩ (fun hHeld => ?_)
                  clear hK K
                  refine norm_ (a' := ?_) ?_ ?_
                  rotate_left
                  · show Act.put _ (some 19) _ = _
                    simp only [Act.put, List.setIfInBounds_toArray, List.set_cons_zero, List.set_cons_succ, i64_w, i32_w]
                    rfl
                  refine pure_ (i := 8) (N := some 20) (v := ?_) (a' := ?_) #[true, true, true, true, true, true, true, true, true, false, false, false] rfl rfl (any_of HT_.out (by kernel_rfl)) (fun _ _ _ h => h) (Or.inl ⟨by rfl, ?_⟩) ?_ ?_
                  rotate_left
                  · intro w'
                    go_simp
                    with_reducible rfl
                  rotate_left
                  · simp only [Act.put, List.setIfInBounds_toArray, List.set_cons_zero, List.set_cons_succ, i64_w, i32_w]
                    rfl
                  refine one_ (i := 9) (N := some 21) #[true, true, true, true, true, true, true, true, true, true, false, false] rfl rfl (one_of HT_.out (by kernel_rfl)) (by decide) (fun K hK => ?_)
                  refine value_ (w1 := ?_) (v := ?_) (by rfl) rfl ?_ ?_
                  rotate_left 2
                  · go_simp
                    constructor
                    · rfl
                    · rfl
                  refine hK.out _ _ ⟨(blk_cell (blk_alloc BK253.out _) 0).trans rfl, (blk_cell (blk_alloc BK253.out _) 1).trans rfl⟩ (fun hHeld => ?_)
                  clear hK K
                  refine norm_ (a' := ?_) ?_ ?_
                  rotate_left
                  · show Act.put _ (some 21) _ = _
                    simp only [Act.put, List.setIfInBounds_toArray, List.set_cons_zero, List.set_cons_succ, i64_w, i32_w]
                    rfl
                  refine one_ (i := 10) (N := some 22) #[true, true, true, true, true, true, true, true, true, true, true, false] rfl rfl (one_of HT_.out (by kernel_rfl)) (by decide) (fun K hK => ?_)
                  refine Kd.R_append_step Kd.string (w0 := w) w.heap.size (by rfl) (.tmp 12) (.tmp 21) 49 9 (.string ⟨#[]⟩) 16 rfl Tryz.underlying49 info9 rfl (by decide) (by omega) u3 x3_1 ((t254 ++ (⟨#[61]⟩ : ByteArray)) ++ t255) [.string ((t254 ++ (⟨#[61]⟩ : ByteArray)) ++ t255)] (fun _ => True) (fun _ => False) rfl rfl ?aP (fun _ hk => hk.elim) ?aF ?aO ?aB ?aS ?aL ?_
                  (case aP => exact rfl)
                  (case aB => exact (by repeat (first | (with_reducible first | exact HB.out | apply below_alloc | apply pw_below_drewN | apply below_drew1 | refine below_set ?_ GE253.out) | exact HB.out)))
                  (case aF => exact (fun _ _ => trivial))
                  (case aO => exact (by (with_reducible repeat (first | apply Kd.R_alloc | apply Kd.R_drewN | apply Kd.R_drew)); exact HO_3.out))
                  (case aS => exact (below_size (by repeat (first | (with_reducible first | exact HB.out | apply below_alloc | apply pw_below_drewN | apply below_drew1 | refine below_set ?_ GE253.out) | exact HB.out))))
                  (case aL => have := LMc9.out; omega)
                  intro v257 w16 ho hb hg hat
                  rw [← Ny256.out] at ho
                  have n0_ := Aside0.mk (blk_grown (g := gb253) (o := .cells #[.string ((rd_T105 l0 x8_1).f0), .string ((rd_T105 l0 x8_1).f1)] 105 (0, 0)) (by (with_reducible repeat (first | refine blk_drewN ?_ _ | refine blk_drew ?_ | refine blk_alloc ?_ _)); exact BK253.out) hg (Kd.R_ne HO_3.out BK253.out (by decide)))
                  have n1_ := Aside0.mk (hb)
                  have n2_ := Aside0.mk (ho)
                  clear BK253
                  clear HB
                  clear HO_3
                  have BK253 := n0_
                  have HB := n1_
                  have HO258 := n2_
                  clear n0_ n1_ n2_
                  clear ho hb hg hat
                  refine hK.out _ _ ⟨(blk_cell BK253.out 0).trans rfl, (blk_cell BK253.out 1).trans rfl⟩ (fun hHeld => ?_)
                  clear hK K
                  refine norm_ (a' := ?_) ?_ ?_
                  rotate_left
                  · show Act.put _ (some 22) _ = _
                    simp only [Act.put, List.setIfInBounds_toArray, List.set_cons_zero, List.set_cons_succ, i64_w, i32_w]
                    rfl
                  refine pure_ (i := 11) (N := some 3) (v := ?_) (a' := ?_) #[true, true, true, true, true, true, true, true, true, true, true, true] rfl rfl (any_of HT_.out (by kernel_rfl)) (fun _ _ _ h => h) (Or.inl ⟨by rfl, ?_⟩) ?_ ?_
                  rotate_left
                  · intro w'
                    go_simp
                    with_reducible rfl
                  rotate_left
                  · simp only [Act.put, List.setIfInBounds_toArray, List.set_cons_zero, List.set_cons_succ, i64_w, i32_w]
                    rfl
                  refine done_ (done_of HT_.out (by kernel_rfl)) ?_
                  try go_wp2
                  go_roundg k1
                  case measure => have := HK1.out; omega
                  case rel => exact ⟨(y256), (wrap64 (x8_1 + 1)), (by first | rfl | (simp; done) | (simp [*]; done) | (simp; unfold wrap64; omega)), H', ⟨by have := HK1.out; omega⟩, ⟨by (with_reducible repeat (first | apply Kd.R_alloc | apply Kd.R_drewN | apply Kd.R_drew)); exact HO258.out⟩, ⟨by repeat (first | (with_reducible first | exact HB.out | apply below_alloc | apply pw_below_drewN | apply below_drew1 | refine below_set ?_ GE253.out) | exact HB.out)⟩⟩
                · rw [if_neg c9] at H
                  exact absurd H (by simp)
              · rw [if_neg c8] at H
                exact absurd H (by simp)
            · rw [if_neg c6] at H
              exact absurd H (by simp)
          · rw [if_neg c4] at H
            exact absurd H (by simp)
        · rw [if_neg c3] at H
          exact absurd H (by simp)
      · rw [if_neg c2] at H
        have c2b0 : decide (x8_1 < (l0.length : Int)) = false := decide_eq_false c2
        clear c2
        replace H := Option.bind_eq_some_iff.mp H
        obtain ⟨t259, A170, H⟩ := H
        replace H : (some t259) = some r := H
        have A17 := Aside0.mk A170
        clear A170
        obtain rfl := Option.some.inj H
        obtain ⟨Ao18, co18, eo18⟩ := Kd.R_slice HO_3.out
        subst eo18
        go_wp2_with (first | ((with_reducible refine gate_callee (f := 67) rfl ?_); refine goesL_ (some 25) rfl rfl Tryz.func67 (by kernel_rfl) rfl #[.slice Ao18 x3_1.length co18, .string (⟨#[38]⟩ : ByteArray)] rfl (by (try simp only [List.map_toArray, List.map_cons, List.map_nil]); first | done | rfl | (simp only [List.length_drop, List.length_take]; rfl)) ?_; (with_reducible refine (strings_Join.calls _ _ x3_1 (⟨#[38]⟩ : ByteArray) t259 _ ?side1 ?side2 A17.out).mono ?_); (case side1 => repeat (first | exact (Kd.R_reads' HO_3.out).2.2 | (with_reducible refine Kd.C_alloc ?_ _) | (with_reducible refine Kd.C_drewN ?_ _) | (with_reducible refine Kd.C_drew ?_))); (case side2 => exact (Kd.R_reads' HO_3.out).2.1); rintro e w19 ⟨rfl, hb⟩; refine ⟨_, rfl, ?_⟩; have n0_ := Aside0.mk (Kd.R_below (by (with_reducible repeat (first | apply Kd.R_alloc | apply Kd.R_drewN | apply Kd.R_drew)); exact HO_3.out) hb); have n1_ := Aside0.mk (below_step (by repeat (first | (with_reducible first | exact HB.out | apply below_alloc | apply pw_below_drewN | apply below_drew1) | exact HB.out)) hb); clear HO_3; clear HB; have HO_3 := n0_; have HB := n1_; clear n0_ n1_; (try clear hb); (try clear hb2); (try clear hk); (try clear hi)))
        go_ret
        exact ⟨by first | rfl | (simp [errW_none, errW_some] <;> rfl) | (simp [*, errW_none, errW_some] <;> rfl), by repeat (first | (with_reducible first | exact HB.out | apply below_alloc | apply pw_below_drewN | apply below_drew1) | exact HB.out)⟩

-- NOT PRINTED: function 9 (http_Text)

end Go.Proofs.YtljlkpfiebcoeaaGreatDoor.Q
