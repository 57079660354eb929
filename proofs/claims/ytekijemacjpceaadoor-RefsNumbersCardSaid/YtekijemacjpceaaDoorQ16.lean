-- printed by a program of the session's own; Lean checks it
import Derived.Test.YtekijemacjpceaaDoorQ0
import Derived.Test.YtekijemacjpceaaDoorQ3
import Derived.Test.YtekijemacjpceaaDoorQ6
import Derived.Test.YtekijemacjpceaaDoorQ9
import Derived.Test.YtekijemacjpceaaDoorQ10
namespace Go.Proofs.YtekijemacjpceaaDoor.Q
open Go.RowKit Go.Proofs.YtekijemacjpceaaDoorW.PrintWords Go.Proofs.YtekijemacjpceaaDoorW.PrintLast Go.Proofs.YtekijemacjpceaaDoorW.PrintMore
attribute [local go_sem] max2_int min2_int max_two min_two max_three min_three max_four min_four   -- for this text's walks alone
set_option linter.unusedVariables false
set_option linter.unusedSimpArgs false

/-! ### cringlelaw11_RefsNumbers: function 8 -/
mutual
def cringlelaw11_RefsNumbers.j0 : Nat → Int → Int → Int → Bool → Option (Bool)
  | 0, _, _, _, _ => none
  | k + 1, x0, x1, x5, x38 => if x38 = true then (some false) else (cringlelaw11_RefsNumbers.l0 k x0 x1 x5 (⟨#[]⟩ : ByteArray) (⟨#[]⟩ : ByteArray) x0 true)
def cringlelaw11_RefsNumbers.l0 : Nat → Int → Int → Int → ByteArray → ByteArray → Int → Bool → Option (Bool)
  | 0, _, _, _, _, _, _, _ => none
  | k + 1, x0, x1, x5, x6, x7, x8, x9 => if x9 = true then ((some (([((48 + (Int.tmod x8 10)) % 4294967296) % 256] : List Int) : List Int)).bind fun y323 => (if (strOfNums y323).size + x6.size ≤ 9223372036854775807 then (cringlelaw11_RefsNumbers.l0 k x0 x1 x5 ((strOfNums y323) ++ x6) x7 ((Int.tdiv x8 10) % 4294967296) false) else (none))) else (if x8 > 0 then ((some (([((48 + (Int.tmod x8 10)) % 4294967296) % 256] : List Int) : List Int)).bind fun y326 => (if (strOfNums y326).size + x6.size ≤ 9223372036854775807 then (cringlelaw11_RefsNumbers.l0 k x0 x1 x5 ((strOfNums y326) ++ x6) x7 ((Int.tdiv x8 10) % 4294967296) false) else (none))) else (cringlelaw11_RefsNumbers.l1 k x1 x5 x6 x7 x0 true))
def cringlelaw11_RefsNumbers.l1 : Nat → Int → Int → ByteArray → ByteArray → Int → Bool → Option (Bool)
  | 0, _, _, _, _, _, _ => none
  | k + 1, x1, x5, x6, x7, x10, x11 => if x11 = true then (if 0 ≤ (Int.tmod x10 16) then (if (Int.tmod x10 16) ≤ (((Int.tmod x10 16) + 1) % 4294967296) then (if (((Int.tmod x10 16) + 1) % 4294967296) ≤ 16 then (if ((⟨#[48, 49, 50, 51, 52, 53, 54, 55, 56, 57, 97, 98, 99, 100, 101, 102]⟩ : ByteArray).extract ((Int.tmod x10 16) : Int).toNat ((((Int.tmod x10 16) + 1) % 4294967296) : Int).toNat).size + x7.size ≤ 9223372036854775807 then (cringlelaw11_RefsNumbers.l1 k x1 x5 x6 (((⟨#[48, 49, 50, 51, 52, 53, 54, 55, 56, 57, 97, 98, 99, 100, 101, 102]⟩ : ByteArray).extract ((Int.tmod x10 16) : Int).toNat ((((Int.tmod x10 16) + 1) % 4294967296) : Int).toNat) ++ x7) ((Int.tdiv x10 16) % 4294967296) false) else (none)) else (none)) else (none)) else (none)) else (if x10 > 0 then (if 0 ≤ (Int.tmod x10 16) then (if (Int.tmod x10 16) ≤ (((Int.tmod x10 16) + 1) % 4294967296) then (if (((Int.tmod x10 16) + 1) % 4294967296) ≤ 16 then (if ((⟨#[48, 49, 50, 51, 52, 53, 54, 55, 56, 57, 97, 98, 99, 100, 101, 102]⟩ : ByteArray).extract ((Int.tmod x10 16) : Int).toNat ((((Int.tmod x10 16) + 1) % 4294967296) : Int).toNat).size + x7.size ≤ 9223372036854775807 then (cringlelaw11_RefsNumbers.l1 k x1 x5 x6 (((⟨#[48, 49, 50, 51, 52, 53, 54, 55, 56, 57, 97, 98, 99, 100, 101, 102]⟩ : ByteArray).extract ((Int.tmod x10 16) : Int).toNat ((((Int.tmod x10 16) + 1) % 4294967296) : Int).toNat) ++ x7) ((Int.tdiv x10 16) % 4294967296) false) else (none)) else (none)) else (none)) else (none)) else (cringlelaw11_RefsNumbers.l2 k x5 x6 x7 (Int.tmod x1 20) 0))
def cringlelaw11_RefsNumbers.l2 : Nat → Int → ByteArray → ByteArray → Int → Int → Option (Bool)
  | 0, _, _, _, _, _ => none
  | k + 1, x5, x6, x7, x72, x73 => if x73 < x72 then (if 1 + x6.size ≤ 9223372036854775807 then (if 1 + x7.size ≤ 9223372036854775807 then (cringlelaw11_RefsNumbers.l2 k x5 ((⟨#[48]⟩ : ByteArray) ++ x6) ((⟨#[48]⟩ : ByteArray) ++ x7) x72 ((x73 + 1) % 256)) else (none)) else (none)) else ((cringleref02_Put.f k ([] : List Int) (([x5] : List Int))).bind fun t332 => (if 2 + x6.size ≤ 9223372036854775807 then (if ((⟨#[38, 35]⟩ : ByteArray) ++ x6).size + 1 ≤ 9223372036854775807 then (if 3 + x7.size ≤ 9223372036854775807 then (if ((⟨#[38, 35, 120]⟩ : ByteArray) ++ x7).size + 1 ≤ 9223372036854775807 then (if ((⟨#[38, 35, 88]⟩ : ByteArray) ++ x7).size + 1 ≤ 9223372036854775807 then ((some (([((⟨#[38, 35]⟩ : ByteArray) ++ x6) ++ (⟨#[59]⟩ : ByteArray), ((⟨#[38, 35, 120]⟩ : ByteArray) ++ x7) ++ (⟨#[59]⟩ : ByteArray), ((⟨#[38, 35, 88]⟩ : ByteArray) ++ x7) ++ (⟨#[59]⟩ : ByteArray)] : List ByteArray) : List ByteArray)).bind fun y335 => (cringlelaw11_RefsNumbers.l3 k x6 (strOfNums t332) y335 (y335.length : Int) 0)) else (none)) else (none)) else (none)) else (none)) else (none)))
def cringlelaw11_RefsNumbers.l3 : Nat → ByteArray → ByteArray → List ByteArray → Int → Int → Option (Bool)
  | 0, _, _, _, _, _ => none
  | k + 1, x6, x12, x93, x94, x95 => if x95 < x94 then (if 0 ≤ x95 then (if x95 < (x93.length : Int) then ((refs_Decode.f k (rdOf ByteArray.empty x93 x95) false).bind fun t341 => (if t341.toList = x12.toList then (if (rdOf ByteArray.empty x93 x95).size + 1 ≤ 9223372036854775807 then ((refs_Decode.f k ((rdOf ByteArray.empty x93 x95) ++ (⟨#[33]⟩ : ByteArray)) true).bind fun t342 => (if x12.size + 1 ≤ 9223372036854775807 then (if t342.toList = (x12 ++ (⟨#[33]⟩ : ByteArray)).toList then (cringlelaw11_RefsNumbers.l3 k x6 x12 x93 x94 (wrap64 (x95 + 1))) else (some false)) else (none))) else (none)) else (some false))) else (none)) else (none)) else (if 2 + x6.size ≤ 9223372036854775807 then (if ((⟨#[38, 35]⟩ : ByteArray) ++ x6).size + 1 ≤ 9223372036854775807 then ((refs_Decode.f k (((⟨#[38, 35]⟩ : ByteArray) ++ x6) ++ (⟨#[32]⟩ : ByteArray)) false).bind fun t338 => (if x12.size + 1 ≤ 9223372036854775807 then (if t338.toList = (x12 ++ (⟨#[32]⟩ : ByteArray)).toList then ((cringlelaw11_alive.f k).bind fun t339 => (some t339)) else (some false)) else (none))) else (none)) else (none))
end
def cringlelaw11_RefsNumbers.f (k : Nat) (a0 : Int) (a1 : Int) : Option (Bool) := (refs_Number.f a0).bind fun t320 => ((cringleref02_Right.f t320).bind fun t321 => (if t321 = true then (if a0 ≥ 160 then ((cringleref02_Right.f (wrap32 (a0))).bind fun t322 => (if t322 = true then (if a0 ≤ 1114111 then (cringlelaw11_RefsNumbers.j0 k a0 a1 t320 (t320 != (wrap32 (a0)))) else (cringlelaw11_RefsNumbers.j0 k a0 a1 t320 false)) else (cringlelaw11_RefsNumbers.j0 k a0 a1 t320 false))) else (cringlelaw11_RefsNumbers.j0 k a0 a1 t320 false)) else (cringlelaw11_RefsNumbers.j0 k a0 a1 t320 true)))
theorem cringlelaw11_RefsNumbers.mono_l : ∀ k, (∀ y0 y1 y2 y3, LeO (cringlelaw11_RefsNumbers.j0 k y0 y1 y2 y3) (cringlelaw11_RefsNumbers.j0 (k + 1) y0 y1 y2 y3)) ∧ (∀ y0 y1 y2 y3 y4 y5 y6, LeO (cringlelaw11_RefsNumbers.l0 k y0 y1 y2 y3 y4 y5 y6) (cringlelaw11_RefsNumbers.l0 (k + 1) y0 y1 y2 y3 y4 y5 y6)) ∧ (∀ y0 y1 y2 y3 y4 y5, LeO (cringlelaw11_RefsNumbers.l1 k y0 y1 y2 y3 y4 y5) (cringlelaw11_RefsNumbers.l1 (k + 1) y0 y1 y2 y3 y4 y5)) ∧ (∀ y0 y1 y2 y3 y4, LeO (cringlelaw11_RefsNumbers.l2 k y0 y1 y2 y3 y4) (cringlelaw11_RefsNumbers.l2 (k + 1) y0 y1 y2 y3 y4)) ∧ (∀ y0 y1 y2 y3 y4, LeO (cringlelaw11_RefsNumbers.l3 k y0 y1 y2 y3 y4) (cringlelaw11_RefsNumbers.l3 (k + 1) y0 y1 y2 y3 y4))
  | 0 => ⟨fun _ _ _ _ r h => by simp [cringlelaw11_RefsNumbers.j0] at h, fun _ _ _ _ _ _ _ r h => by simp [cringlelaw11_RefsNumbers.l0] at h, fun _ _ _ _ _ _ r h => by simp [cringlelaw11_RefsNumbers.l1] at h, fun _ _ _ _ _ r h => by simp [cringlelaw11_RefsNumbers.l2] at h, fun _ _ _ _ _ r h => by simp [cringlelaw11_RefsNumbers.l3] at h⟩
  | k + 1 => by
    obtain ⟨ih0, ih1, ih2, ih3, ih4⟩ := cringlelaw11_RefsNumbers.mono_l k
    refine ⟨?_, ?_, ?_, ?_, ?_⟩
    · intro y0 y1 y2 y3
      unfold cringlelaw11_RefsNumbers.j0
      repeat' first
      | (with_reducible exact ih0 _ _ _ _)
      | (with_reducible exact ih1 _ _ _ _ _ _ _)
      | (with_reducible exact ih2 _ _ _ _ _ _)
      | (with_reducible exact ih3 _ _ _ _ _)
      | (with_reducible exact ih4 _ _ _ _ _)
      | (with_reducible exact cringlelaw11_alive.mono _)
      | (with_reducible exact cringleref02_Put.mono _ _ _)
      | (with_reducible exact refs_Decode.mono _ _ _)
      | (with_reducible exact LeO.refl _)
      | (with_reducible exact LeO.none _)
      | (with_reducible refine LeO.ite ?_ ?_)
      | (with_reducible refine LeO.bind ?_ (fun _ => ?_))
      | exact ih0 _ _ _ _
      | exact ih1 _ _ _ _ _ _ _
      | exact ih2 _ _ _ _ _ _
      | exact ih3 _ _ _ _ _
      | exact ih4 _ _ _ _ _
      | exact cringlelaw11_alive.mono _
      | exact cringleref02_Put.mono _ _ _
      | exact refs_Decode.mono _ _ _
      | exact LeO.none _
      | refine LeO.ite ?_ ?_
      | refine LeO.bind ?_ (fun _ => ?_)
    · intro y0 y1 y2 y3 y4 y5 y6
      unfold cringlelaw11_RefsNumbers.l0
      repeat' first
      | (with_reducible exact ih0 _ _ _ _)
      | (with_reducible exact ih1 _ _ _ _ _ _ _)
      | (with_reducible exact ih2 _ _ _ _ _ _)
      | (with_reducible exact ih3 _ _ _ _ _)
      | (with_reducible exact ih4 _ _ _ _ _)
      | (with_reducible exact cringlelaw11_alive.mono _)
      | (with_reducible exact cringleref02_Put.mono _ _ _)
      | (with_reducible exact refs_Decode.mono _ _ _)
      | (with_reducible exact LeO.refl _)
      | (with_reducible exact LeO.none _)
      | (with_reducible refine LeO.ite ?_ ?_)
      | (with_reducible refine LeO.bind ?_ (fun _ => ?_))
      | exact ih0 _ _ _ _
      | exact ih1 _ _ _ _ _ _ _
      | exact ih2 _ _ _ _ _ _
      | exact ih3 _ _ _ _ _
      | exact ih4 _ _ _ _ _
      | exact cringlelaw11_alive.mono _
      | exact cringleref02_Put.mono _ _ _
      | exact refs_Decode.mono _ _ _
      | exact LeO.none _
      | refine LeO.ite ?_ ?_
      | refine LeO.bind ?_ (fun _ => ?_)
    · intro y0 y1 y2 y3 y4 y5
      unfold cringlelaw11_RefsNumbers.l1
      repeat' first
      | (with_reducible exact ih0 _ _ _ _)
      | (with_reducible exact ih1 _ _ _ _ _ _ _)
      | (with_reducible exact ih2 _ _ _ _ _ _)
      | (with_reducible exact ih3 _ _ _ _ _)
      | (with_reducible exact ih4 _ _ _ _ _)
      | (with_reducible exact cringlelaw11_alive.mono _)
      | (with_reducible exact cringleref02_Put.mono _ _ _)
      | (with_reducible exact refs_Decode.mono _ _ _)
      | (with_reducible exact LeO.refl _)
      | (with_reducible exact LeO.none _)
      | (with_reducible refine LeO.ite ?_ ?_)
      | (with_reducible refine LeO.bind ?_ (fun _ => ?_))
      | exact ih0 _ _ _ _
      | exact ih1 _ _ _ _ _ _ _
      | exact ih2 _ _ _ _ _ _
      | exact ih3 _ _ _ _ _
      | exact ih4 _ _ _ _ _
      | exact cringlelaw11_alive.mono _
      | exact cringleref02_Put.mono _ _ _
      | exact refs_Decode.mono _ _ _
      | exact LeO.none _
      | refine LeO.ite ?_ ?_
      | refine LeO.bind ?_ (fun _ => ?_)
    · intro y0 y1 y2 y3 y4
      unfold cringlelaw11_RefsNumbers.l2
      repeat' first
      | (with_reducible exact ih0 _ _ _ _)
      | (with_reducible exact ih1 _ _ _ _ _ _ _)
      | (with_reducible exact ih2 _ _ _ _ _ _)
      | (with_reducible exact ih3 _ _ _ _ _)
      | (with_reducible exact ih4 _ _ _ _ _)
      | (with_reducible exact cringlelaw11_alive.mono _)
      | (with_reducible exact cringleref02_Put.mono _ _ _)
      | (with_reducible exact refs_Decode.mono _ _ _)
      | (with_reducible exact LeO.refl _)
      | (with_reducible exact LeO.none _)
      | (with_reducible refine LeO.ite ?_ ?_)
      | (with_reducible refine LeO.bind ?_ (fun _ => ?_))
      | exact ih0 _ _ _ _
      | exact ih1 _ _ _ _ _ _ _
      | exact ih2 _ _ _ _ _ _
      | exact ih3 _ _ _ _ _
      | exact ih4 _ _ _ _ _
      | exact cringlelaw11_alive.mono _
      | exact cringleref02_Put.mono _ _ _
      | exact refs_Decode.mono _ _ _
      | exact LeO.none _
      | refine LeO.ite ?_ ?_
      | refine LeO.bind ?_ (fun _ => ?_)
    · intro y0 y1 y2 y3 y4
      unfold cringlelaw11_RefsNumbers.l3
      repeat' first
      | (with_reducible exact ih0 _ _ _ _)
      | (with_reducible exact ih1 _ _ _ _ _ _ _)
      | (with_reducible exact ih2 _ _ _ _ _ _)
      | (with_reducible exact ih3 _ _ _ _ _)
      | (with_reducible exact ih4 _ _ _ _ _)
      | (with_reducible exact cringlelaw11_alive.mono _)
      | (with_reducible exact cringleref02_Put.mono _ _ _)
      | (with_reducible exact refs_Decode.mono _ _ _)
      | (with_reducible exact LeO.refl _)
      | (with_reducible exact LeO.none _)
      | (with_reducible refine LeO.ite ?_ ?_)
      | (with_reducible refine LeO.bind ?_ (fun _ => ?_))
      | exact ih0 _ _ _ _
      | exact ih1 _ _ _ _ _ _ _
      | exact ih2 _ _ _ _ _ _
      | exact ih3 _ _ _ _ _
      | exact ih4 _ _ _ _ _
      | exact cringlelaw11_alive.mono _
      | exact cringleref02_Put.mono _ _ _
      | exact refs_Decode.mono _ _ _
      | exact LeO.none _
      | refine LeO.ite ?_ ?_
      | refine LeO.bind ?_ (fun _ => ?_)
theorem cringlelaw11_RefsNumbers.mono : ∀ a0 a1 k, LeO (cringlelaw11_RefsNumbers.f k a0 a1) (cringlelaw11_RefsNumbers.f (k + 1) a0 a1) := by
  intro a0 a1 k
  obtain ⟨ih0, ih1, ih2, ih3, ih4⟩ := cringlelaw11_RefsNumbers.mono_l k
  unfold cringlelaw11_RefsNumbers.f
  repeat' first
      | (with_reducible exact ih0 _ _ _ _)
      | (with_reducible exact ih1 _ _ _ _ _ _ _)
      | (with_reducible exact ih2 _ _ _ _ _ _)
      | (with_reducible exact ih3 _ _ _ _ _)
      | (with_reducible exact ih4 _ _ _ _ _)
      | (with_reducible exact cringlelaw11_alive.mono _)
      | (with_reducible exact cringleref02_Put.mono _ _ _)
      | (with_reducible exact refs_Decode.mono _ _ _)
      | (with_reducible exact LeO.refl _)
      | (with_reducible exact LeO.none _)
      | (with_reducible refine LeO.ite ?_ ?_)
      | (with_reducible refine LeO.bind ?_ (fun _ => ?_))
      | exact ih0 _ _ _ _
      | exact ih1 _ _ _ _ _ _ _
      | exact ih2 _ _ _ _ _ _
      | exact ih3 _ _ _ _ _
      | exact ih4 _ _ _ _ _
      | exact cringlelaw11_alive.mono _
      | exact cringleref02_Put.mono _ _ _
      | exact refs_Decode.mono _ _ _
      | exact LeO.none _
      | refine LeO.ite ?_ ?_
      | refine LeO.bind ?_ (fun _ => ?_)
set_option maxHeartbeats 8000000 in
set_option maxRecDepth 100000 in
theorem cringlelaw11_RefsNumbers.calls (k : Nat) (a0 : Int) (a1 : Int) (r : Bool) (w : World) (h : cringlelaw11_RefsNumbers.f k a0 a1 = some r) (htrue : Aside0 (r = true)) (TT_ : Aside0 (Go.Proofs.YtekijemacjpceaaDoor.Tabs w) := by first | exact TT_ | exact ⟨Go.Proofs.YtekijemacjpceaaDoor.Tabs.below TT_.out (by repeat (first | (with_reducible first | exact HB.out | apply below_alloc | apply pw_below_drewN | apply below_drew1) | exact HB.out | (refine below_set ?_ ?_; rotate_left; exact (Aside0.out (by assumption)))))⟩) :
    Calls Tryd.prog 8 #[.int .u32 a0, .int .u8 a1] w fun e w' => e = .returned (.bool r) ∧ Below w.heap.size w w' := by
  have HB := Aside0.mk (Below.refl w.heap.size w)
  have H : ((refs_Number.f a0).bind fun t320 => ((cringleref02_Right.f t320).bind fun t321 => (if t321 = true then (if a0 ≥ 160 then ((cringleref02_Right.f (wrap32 (a0))).bind fun t322 => (if t322 = true then (if a0 ≤ 1114111 then (cringlelaw11_RefsNumbers.j0 k a0 a1 t320 (t320 != (wrap32 (a0)))) else (cringlelaw11_RefsNumbers.j0 k a0 a1 t320 false)) else (cringlelaw11_RefsNumbers.j0 k a0 a1 t320 false))) else (cringlelaw11_RefsNumbers.j0 k a0 a1 t320 false)) else (cringlelaw11_RefsNumbers.j0 k a0 a1 t320 true)))) = some r := h
  clear h
  replace H := Option.bind_eq_some_iff.mp H
  obtain ⟨t320, A30, H⟩ := H
  replace H : ((cringleref02_Right.f t320).bind fun t321 => (if t321 = true then (if a0 ≥ 160 then ((cringleref02_Right.f (wrap32 (a0))).bind fun t322 => (if t322 = true then (if a0 ≤ 1114111 then (cringlelaw11_RefsNumbers.j0 k a0 a1 t320 (t320 != (wrap32 (a0)))) else (cringlelaw11_RefsNumbers.j0 k a0 a1 t320 false)) else (cringlelaw11_RefsNumbers.j0 k a0 a1 t320 false))) else (cringlelaw11_RefsNumbers.j0 k a0 a1 t320 false)) else (cringlelaw11_RefsNumbers.j0 k a0 a1 t320 true))) = some r := H
  have A3 := Aside0.mk A30
  clear A30
  have HC4 := Aside0.mk H
  clear H
  go_enter Tryd.func8, Tryd.ntmps8
  go_upto_region 2 with (first | ((with_reducible refine gate_callee (f := 11) rfl ?_); refine goesL_ (some 16) rfl rfl Tryd.func11 (by kernel_rfl) rfl #[.int .u32 a0] rfl (by (try simp only [List.map_toArray, List.map_cons, List.map_nil]); first | done | rfl | (simp only [List.length_drop, List.length_take]; rfl)) ?_; (with_reducible refine (refs_Number.calls a0 t320 _ A3.out).mono ?_); rintro e w5 ⟨rfl, hb⟩; refine ⟨_, rfl, ?_⟩; have n0_ := Aside0.mk (below_step (by repeat (first | (with_reducible first | exact HB.out | apply below_alloc | apply pw_below_drewN | apply below_drew1) | exact HB.out)) hb); clear HB; have HB := n0_; clear n0_; (try clear hb); (try clear hb2); (try clear hk); (try clear hi)))
  (try simp only [Act.put, List.setIfInBounds_toArray, List.set_cons_zero, List.set_cons_succ])
  go_cut [38] (fun v38 wc => ∃ (kq : Nat) (x38_3 : Bool), v38 = .bool x38_3 ∧ Aside0 (cringlelaw11_RefsNumbers.j0 kq a0 a1 t320 x38_3 = some r) ∧ Aside0 (kq ≤ k) ∧ Aside0 (Below w.heap.size w wc))
  case first =>
    have H := HC4.out
    clear HC4
    replace H := Option.bind_eq_some_iff.mp H
    obtain ⟨t321, A60, H⟩ := H
    replace H : (if t321 = true then (if a0 ≥ 160 then ((cringleref02_Right.f (wrap32 (a0))).bind fun t322 => (if t322 = true then (if a0 ≤ 1114111 then (cringlelaw11_RefsNumbers.j0 k a0 a1 t320 (t320 != (wrap32 (a0)))) else (cringlelaw11_RefsNumbers.j0 k a0 a1 t320 false)) else (cringlelaw11_RefsNumbers.j0 k a0 a1 t320 false))) else (cringlelaw11_RefsNumbers.j0 k a0 a1 t320 false)) else (cringlelaw11_RefsNumbers.j0 k a0 a1 t320 true)) = some r := H
    have A6 := Aside0.mk A60
    clear A60
    by_cases c7 : t321 = true
    · subst c7
      have H1 : (if a0 ≥ 160 then ((cringleref02_Right.f (wrap32 (a0))).bind fun t322 => (if t322 = true then (if a0 ≤ 1114111 then (cringlelaw11_RefsNumbers.j0 k a0 a1 t320 (t320 != (wrap32 (a0)))) else (cringlelaw11_RefsNumbers.j0 k a0 a1 t320 false)) else (cringlelaw11_RefsNumbers.j0 k a0 a1 t320 false))) else (cringlelaw11_RefsNumbers.j0 k a0 a1 t320 false)) = some r := by rw [if_pos rfl] at H; exact H
      clear H
      have H := H1
      clear H1
      by_cases c8 : a0 ≥ 160
      · rw [if_pos c8] at H
        have c8b0 : decide (160 ≤ a0) = true := decide_eq_true c8
        clear c8
        (first | rw [c8b0] | (simp only [i64_w, i32_w]; rw [c8b0]) | skip)
        replace H := Option.bind_eq_some_iff.mp H
        obtain ⟨t322, A90, H⟩ := H
        replace H : (if t322 = true then (if a0 ≤ 1114111 then (cringlelaw11_RefsNumbers.j0 k a0 a1 t320 (t320 != (wrap32 (a0)))) else (cringlelaw11_RefsNumbers.j0 k a0 a1 t320 false)) else (cringlelaw11_RefsNumbers.j0 k a0 a1 t320 false)) = some r := H
        have A9 := Aside0.mk A90
        clear A90
        by_cases c10 : t322 = true
        · subst c10
          have H1 : (if a0 ≤ 1114111 then (cringlelaw11_RefsNumbers.j0 k a0 a1 t320 (t320 != (wrap32 (a0)))) else (cringlelaw11_RefsNumbers.j0 k a0 a1 t320 false)) = some r := by rw [if_pos rfl] at H; exact H
          clear H
          have H := H1
          clear H1
          by_cases c11 : a0 ≤ 1114111
          · rw [if_pos c11] at H
            have c11b0 : decide (a0 ≤ 1114111) = true := decide_eq_true c11
            clear c11
            have H' := Aside0.mk H
            clear H
            go_wp2_with (first | ((with_reducible refine gate_callee (f := 22) rfl ?_); refine goesL_ (some 18) rfl rfl Tryd.func22 (by kernel_rfl) rfl #[.int .i32 t320] rfl (by (try simp only [List.map_toArray, List.map_cons, List.map_nil]); first | done | rfl | (simp only [List.length_drop, List.length_take]; rfl)) ?_; (with_reducible refine (cringleref02_Right.calls t320 true _ A6.out).mono ?_); rintro e w' ⟨rfl, ⟨nd, rfl⟩⟩; refine ⟨_, rfl, ?_⟩) | (go_at_call 22; (with_reducible refine (cringleref02_Right.calls (wrap32 (a0)) true _ A9.out).mono ?_); rintro e w' ⟨rfl, ⟨nd, rfl⟩⟩))
            go_meet
            case rel => exact ⟨_, ((t320 != (wrap32 (a0)))), (by first | rfl | (simp; done) | (simp [*]; done) | (simp; unfold wrap64; omega)), H', ⟨by first | omega | exact Nat.le_refl _⟩, ⟨by repeat (first | (with_reducible first | exact HB.out | apply below_alloc | apply pw_below_drewN | apply below_drew1) | exact HB.out)⟩⟩
          · rw [if_neg c11] at H
            have c11b0 : decide (a0 ≤ 1114111) = false := decide_eq_false c11
            clear c11
            have H' := Aside0.mk H
            clear H
            go_wp2_with (first | ((with_reducible refine gate_callee (f := 22) rfl ?_); refine goesL_ (some 18) rfl rfl Tryd.func22 (by kernel_rfl) rfl #[.int .i32 t320] rfl (by (try simp only [List.map_toArray, List.map_cons, List.map_nil]); first | done | rfl | (simp only [List.length_drop, List.length_take]; rfl)) ?_; (with_reducible refine (cringleref02_Right.calls t320 true _ A6.out).mono ?_); rintro e w' ⟨rfl, ⟨nd, rfl⟩⟩; refine ⟨_, rfl, ?_⟩) | (go_at_call 22; (with_reducible refine (cringleref02_Right.calls (wrap32 (a0)) true _ A9.out).mono ?_); rintro e w' ⟨rfl, ⟨nd, rfl⟩⟩))
            go_meet
            case rel => exact ⟨_, (false), (by first | rfl | (simp; done) | (simp [*]; done) | (simp; unfold wrap64; omega)), H', ⟨by first | omega | exact Nat.le_refl _⟩, ⟨by repeat (first | (with_reducible first | exact HB.out | apply below_alloc | apply pw_below_drewN | apply below_drew1) | exact HB.out)⟩⟩
        · replace c10 := Bool.eq_false_iff.mpr c10
          subst c10
          have H1 : (cringlelaw11_RefsNumbers.j0 k a0 a1 t320 false) = some r := by rw [if_neg (show ¬ (false = true) by decide)] at H; exact H
          clear H
          have H := H1
          clear H1
          have H' := Aside0.mk H
          clear H
          go_wp2_with (first | ((with_reducible refine gate_callee (f := 22) rfl ?_); refine goesL_ (some 18) rfl rfl Tryd.func22 (by kernel_rfl) rfl #[.int .i32 t320] rfl (by (try simp only [List.map_toArray, List.map_cons, List.map_nil]); first | done | rfl | (simp only [List.length_drop, List.length_take]; rfl)) ?_; (with_reducible refine (cringleref02_Right.calls t320 true _ A6.out).mono ?_); rintro e w' ⟨rfl, ⟨nd, rfl⟩⟩; refine ⟨_, rfl, ?_⟩) | (go_at_call 22; (with_reducible refine (cringleref02_Right.calls (wrap32 (a0)) false _ A9.out).mono ?_); rintro e w' ⟨rfl, ⟨nd, rfl⟩⟩))
          go_meet
          case rel => exact ⟨_, (false), (by first | rfl | (simp; done) | (simp [*]; done) | (simp; unfold wrap64; omega)), H', ⟨by first | omega | exact Nat.le_refl _⟩, ⟨by repeat (first | (with_reducible first | exact HB.out | apply below_alloc | apply pw_below_drewN | apply below_drew1) | exact HB.out)⟩⟩
      · rw [if_neg c8] at H
        have c8b0 : decide (160 ≤ a0) = false := decide_eq_false c8
        clear c8
        (first | rw [c8b0] | (simp only [i64_w, i32_w]; rw [c8b0]) | skip)
        have H' := Aside0.mk H
        clear H
        go_wp2_with (first | ((with_reducible refine gate_callee (f := 22) rfl ?_); refine goesL_ (some 18) rfl rfl Tryd.func22 (by kernel_rfl) rfl #[.int .i32 t320] rfl (by (try simp only [List.map_toArray, List.map_cons, List.map_nil]); first | done | rfl | (simp only [List.length_drop, List.length_take]; rfl)) ?_; (with_reducible refine (cringleref02_Right.calls t320 true _ A6.out).mono ?_); rintro e w' ⟨rfl, ⟨nd, rfl⟩⟩; refine ⟨_, rfl, ?_⟩))
        go_meet
        case rel => exact ⟨_, (false), (by first | rfl | (simp; done) | (simp [*]; done) | (simp; unfold wrap64; omega)), H', ⟨by first | omega | exact Nat.le_refl _⟩, ⟨by repeat (first | (with_reducible first | exact HB.out | apply below_alloc | apply pw_below_drewN | apply below_drew1) | exact HB.out)⟩⟩
    · replace c7 := Bool.eq_false_iff.mpr c7
      subst c7
      have H1 : (cringlelaw11_RefsNumbers.j0 k a0 a1 t320 true) = some r := by rw [if_neg (show ¬ (false = true) by decide)] at H; exact H
      clear H
      have H := H1
      clear H1
      have H' := Aside0.mk H
      clear H
      go_wp2_with (first | ((with_reducible refine gate_callee (f := 22) rfl ?_); refine goesL_ (some 18) rfl rfl Tryd.func22 (by kernel_rfl) rfl #[.int .i32 t320] rfl (by (try simp only [List.map_toArray, List.map_cons, List.map_nil]); first | done | rfl | (simp only [List.length_drop, List.length_take]; rfl)) ?_; (with_reducible refine (cringleref02_Right.calls t320 false _ A6.out).mono ?_); rintro e w' ⟨rfl, ⟨nd, rfl⟩⟩; refine ⟨_, rfl, ?_⟩))
      go_meet
      case rel => exact ⟨_, (true), (by first | rfl | (simp; done) | (simp [*]; done) | (simp; unfold wrap64; omega)), H', ⟨by first | omega | exact Nat.le_refl _⟩, ⟨by repeat (first | (with_reducible first | exact HB.out | apply below_alloc | apply pw_below_drewN | apply below_drew1) | exact HB.out)⟩⟩
  case rest =>
    clear HC4
    try clear c1
    try clear c2
    try clear p2
    try clear p3
    try clear p6
    try clear c7
    try clear c8
    try clear c8b0
    try clear c10
    try clear c11
    try clear c11b0
    obtain ⟨kq, x38_3, rfl, HA, HJ3, HB⟩ := hcut
    cases kq with
    | zero => exact absurd HA.out (by simp [cringlelaw11_RefsNumbers.j0])
    | succ kj3 =>
      have H := HA.out
      clear HA
      simp only [cringlelaw11_RefsNumbers.j0] at H
      by_cases c12 : x38_3 = true
      · subst c12
        have H1 : (some false) = some r := by rw [if_pos rfl] at H; exact H
        clear H
        have H := H1
        clear H1
        exact absurd (Option.some.inj H) (by rw [htrue.out]; decide)
      · replace c12 := Bool.eq_false_iff.mpr c12
        subst c12
        have H1 : (cringlelaw11_RefsNumbers.l0 kj3 a0 a1 t320 (⟨#[]⟩ : ByteArray) (⟨#[]⟩ : ByteArray) a0 true) = some r := by rw [if_neg (show ¬ (false = true) by decide)] at H; exact H
        clear H
        have H := H1
        clear H1
        have H' := Aside0.mk H
        clear H
        go_wp2
        go_loopg [6, 8, 9] kj3 (fun kq v6 v8 v9 w' => ∃ (x6_2 : ByteArray) (x8_2 : Int) (x9_2 : Bool), v6 = .string x6_2 ∧ v8 = .int .u32 x8_2 ∧ v9 = .bool x9_2 ∧ Aside0 (cringlelaw11_RefsNumbers.l0 kq a0 a1 t320 x6_2 (⟨#[]⟩ : ByteArray) x8_2 x9_2 = some r) ∧ Aside0 (kq ≤ kj3) ∧ Aside0 (Below w.heap.size w w'))
        case atStart => exact ⟨((⟨#[]⟩ : ByteArray)), (a0), (true), (by first | rfl | (simp; done) | (simp [*]; done) | (simp; unfold wrap64; omega)), (by first | rfl | (simp; done) | (simp [*]; done) | (simp; unfold wrap64; omega)), (by first | rfl | (simp; done) | (simp [*]; done) | (simp; unfold wrap64; omega)), H', ⟨Nat.le_refl _⟩, ⟨by repeat (first | (with_reducible first | exact HB.out | apply below_alloc | apply pw_below_drewN | apply below_drew1) | exact HB.out)⟩⟩
        case round =>
          clear H'
          try clear c1
          try clear c2
          try clear p2
          try clear p3
          try clear p6
          try clear c7
          try clear c8
          try clear c8b0
          try clear c10
          try clear c11
          try clear c11b0
          try clear c12
          try clear p2
          try clear p3
          try clear p6
          obtain ⟨x6_2, x8_2, x9_2, rfl, rfl, rfl, HA, HK2, HB⟩ := hrel
          cases gk with
          | zero => exact absurd HA.out (by simp [cringlelaw11_RefsNumbers.l0])
          | succ k2 =>
            have H := HA.out
            clear HA
            simp only [cringlelaw11_RefsNumbers.l0] at H
            by_cases c13 : x9_2 = true
            · subst c13
              have H1 : ((some (([((48 + (Int.tmod x8_2 10)) % 4294967296) % 256] : List Int) : List Int)).bind fun y323 => (if (strOfNums y323).size + x6_2.size ≤ 9223372036854775807 then (cringlelaw11_RefsNumbers.l0 k2 a0 a1 t320 ((strOfNums y323) ++ x6_2) (⟨#[]⟩ : ByteArray) ((Int.tdiv x8_2 10) % 4294967296) false) else (none))) = some r := by rw [if_pos rfl] at H; exact H
              clear H
              have H := H1
              clear H1
              obtain ⟨y323, hy323⟩ : ∃ y_ : List Int, y_ = (([((48 + (Int.tmod x8_2 10)) % 4294967296) % 256] : List Int)) := ⟨_, rfl⟩
              replace H : (if (strOfNums y323).size + x6_2.size ≤ 9223372036854775807 then (cringlelaw11_RefsNumbers.l0 k2 a0 a1 t320 ((strOfNums y323) ++ x6_2) (⟨#[]⟩ : ByteArray) ((Int.tdiv x8_2 10) % 4294967296) false) else (none)) = some r := by first | (rw [hy323]; with_reducible exact H) | (have H2_ := (Option.bind_some _ _).symm.trans H; rw [hy323]; with_reducible exact H2_) | (have H2_ := (Option.bind_some _ _).symm.trans H; with_reducible exact H2_) | with_reducible exact H | (rw [hy323]; exact H) | exact H
              have Ny323 := Aside0.mk hy323
              clear hy323
              by_cases c14 : (strOfNums y323).size + x6_2.size ≤ 9223372036854775807
              · rw [if_pos c14] at H
                have c14b0 := eq_true c14
                have c14b1 : decide ((strOfNums y323).size + x6_2.size ≤ 9223372036854775807) = true := decide_eq_true c14
                try have c14b2 : (9223372036854775807 < (strOfNums y323).size + x6_2.size) = False := eq_false (Nat.not_lt.2 c14)
                have H' := Aside0.mk H
                clear H
                go_wp2_with (first | ((with_reducible refine gate_dst (N := 51) rfl ?_); refine Kd.R_lit (Kd.int .u8) _ 5 ?hg (N := 51) ?hd (xs := ([((48 + (Int.tmod x8_2 10)) % 4294967296) % 256] : List Int)) (inner := [.int .u8 (((48 + (Int.tmod x8_2 10)) % 4294967296) % 256)]) (ok := fun _ => True) (okp := fun _ => True) ?hr ?hp (fun _ hk => hk) trivial (Below.refl _ _) (Nat.le_refl _) (by simp) ?_; (case hd => rfl); (case hg => rfl); (case hr => first | (go_simp; done) | (go_simp; rfl)); (case hp => exact (Reps.one (show Kd.M (Kd.int .u8) _ _ _ (((48 + (Int.tmod x8_2 10)) % 4294967296) % 256) [.int .u8 (((48 + (Int.tmod x8_2 10)) % 4294967296) % 256)] from rfl) (Reps.none _ _))); intro v324 w15 ho16 hb hg_ hnew_; clear hg_ hnew_; (first | rw [← Ny323.out] at ho16 | (simp only [Int.reduceToNat] at ho16; rw [← Ny323.out] at ho16)); have n0_ := Aside0.mk (Kd.R_lower ho16 (below_size (by repeat (first | (with_reducible first | exact HB.out | apply below_alloc | apply pw_below_drewN | apply below_drew1) | exact HB.out)))); have n1_ := Aside0.mk (below_step (by repeat (first | (with_reducible first | exact HB.out | apply below_alloc | apply pw_below_drewN | apply below_drew1) | exact HB.out)) hb); clear HB; have HO325 := n0_; have HB := n1_; clear n0_ n1_; clear hb ho16; have hcv17 := own_string (P := Tryd.prog) Tryd.underlying34 Tryd.underlying5 Tryd.underlying9 (Kd.own_of_R HO325.out)))
                go_roundg k2
                case measure => have := HJ3.out; have := HK2.out; omega
                case rel => exact ⟨((strOfNums y323) ++ x6_2), ((Int.tdiv x8_2 10) % 4294967296), (false), (by first | rfl | (simp; done) | (simp [*]; done) | (simp; unfold wrap64; omega)), (by first | rfl | (simp; done) | (simp [*]; done) | (simp; unfold wrap64; omega)), (by first | rfl | (simp; done) | (simp [*]; done) | (simp; unfold wrap64; omega)), H', ⟨by have := HJ3.out; have := HK2.out; omega⟩, ⟨by repeat (first | (with_reducible first | exact HB.out | apply below_alloc | apply pw_below_drewN | apply below_drew1) | exact HB.out)⟩⟩
              · rw [if_neg c14] at H
                exact absurd H (by simp)
            · replace c13 := Bool.eq_false_iff.mpr c13
              subst c13
              have H1 : (if x8_2 > 0 then ((some (([((48 + (Int.tmod x8_2 10)) % 4294967296) % 256] : List Int) : List Int)).bind fun y326 => (if (strOfNums y326).size + x6_2.size ≤ 9223372036854775807 then (cringlelaw11_RefsNumbers.l0 k2 a0 a1 t320 ((strOfNums y326) ++ x6_2) (⟨#[]⟩ : ByteArray) ((Int.tdiv x8_2 10) % 4294967296) false) else (none))) else (cringlelaw11_RefsNumbers.l1 k2 a1 t320 x6_2 (⟨#[]⟩ : ByteArray) a0 true)) = some r := by rw [if_neg (show ¬ (false = true) by decide)] at H; exact H
              clear H
              have H := H1
              clear H1
              by_cases c18 : x8_2 > 0
              · rw [if_pos c18] at H
                have c18b0 : decide (0 < x8_2) = true := decide_eq_true c18
                clear c18
                obtain ⟨y326, hy326⟩ : ∃ y_ : List Int, y_ = (([((48 + (Int.tmod x8_2 10)) % 4294967296) % 256] : List Int)) := ⟨_, rfl⟩
                replace H : (if (strOfNums y326).size + x6_2.size ≤ 9223372036854775807 then (cringlelaw11_RefsNumbers.l0 k2 a0 a1 t320 ((strOfNums y326) ++ x6_2) (⟨#[]⟩ : ByteArray) ((Int.tdiv x8_2 10) % 4294967296) false) else (none)) = some r := by first | (rw [hy326]; with_reducible exact H) | (have H2_ := (Option.bind_some _ _).symm.trans H; rw [hy326]; with_reducible exact H2_) | (have H2_ := (Option.bind_some _ _).symm.trans H; with_reducible exact H2_) | with_reducible exact H | (rw [hy326]; exact H) | exact H
                have Ny326 := Aside0.mk hy326
                clear hy326
                by_cases c19 : (strOfNums y326).size + x6_2.size ≤ 9223372036854775807
                · rw [if_pos c19] at H
                  have c19b0 := eq_true c19
                  have c19b1 : decide ((strOfNums y326).size + x6_2.size ≤ 9223372036854775807) = true := decide_eq_true c19
                  try have c19b2 : (9223372036854775807 < (strOfNums y326).size + x6_2.size) = False := eq_false (Nat.not_lt.2 c19)
                  have H' := Aside0.mk H
                  clear H
                  go_wp2_with (first | ((with_reducible refine gate_dst (N := 51) rfl ?_); refine Kd.R_lit (Kd.int .u8) _ 5 ?hg (N := 51) ?hd (xs := ([((48 + (Int.tmod x8_2 10)) % 4294967296) % 256] : List Int)) (inner := [.int .u8 (((48 + (Int.tmod x8_2 10)) % 4294967296) % 256)]) (ok := fun _ => True) (okp := fun _ => True) ?hr ?hp (fun _ hk => hk) trivial (Below.refl _ _) (Nat.le_refl _) (by simp) ?_; (case hd => rfl); (case hg => rfl); (case hr => first | (go_simp; done) | (go_simp; rfl)); (case hp => exact (Reps.one (show Kd.M (Kd.int .u8) _ _ _ (((48 + (Int.tmod x8_2 10)) % 4294967296) % 256) [.int .u8 (((48 + (Int.tmod x8_2 10)) % 4294967296) % 256)] from rfl) (Reps.none _ _))); intro v327 w20 ho21 hb hg_ hnew_; clear hg_ hnew_; (first | rw [← Ny326.out] at ho21 | (simp only [Int.reduceToNat] at ho21; rw [← Ny326.out] at ho21)); have n0_ := Aside0.mk (Kd.R_lower ho21 (below_size (by repeat (first | (with_reducible first | exact HB.out | apply below_alloc | apply pw_below_drewN | apply below_drew1) | exact HB.out)))); have n1_ := Aside0.mk (below_step (by repeat (first | (with_reducible first | exact HB.out | apply below_alloc | apply pw_below_drewN | apply below_drew1) | exact HB.out)) hb); clear HB; have HO328 := n0_; have HB := n1_; clear n0_ n1_; clear hb ho21; have hcv22 := own_string (P := Tryd.prog) Tryd.underlying34 Tryd.underlying5 Tryd.underlying9 (Kd.own_of_R HO328.out)))
                  go_roundg k2
                  case measure => have := HJ3.out; have := HK2.out; omega
                  case rel => exact ⟨((strOfNums y326) ++ x6_2), ((Int.tdiv x8_2 10) % 4294967296), (false), (by first | rfl | (simp; done) | (simp [*]; done) | (simp; unfold wrap64; omega)), (by first | rfl | (simp; done) | (simp [*]; done) | (simp; unfold wrap64; omega)), (by first | rfl | (simp; done) | (simp [*]; done) | (simp; unfold wrap64; omega)), H', ⟨by have := HJ3.out; have := HK2.out; omega⟩, ⟨by repeat (first | (with_reducible first | exact HB.out | apply below_alloc | apply pw_below_drewN | apply below_drew1) | exact HB.out)⟩⟩
                · rw [if_neg c19] at H
                  exact absurd H (by simp)
              · rw [if_neg c18] at H
                have c18b0 : decide (0 < x8_2) = false := decide_eq_false c18
                clear c18
                have H' := Aside0.mk H
                clear H
                go_wp2
                go_loopg [7, 10, 11] k2 (fun kq v7 v10 v11 w' => ∃ (x7_3 : ByteArray) (x10_3 : Int) (x11_3 : Bool), v7 = .string x7_3 ∧ v10 = .int .u32 x10_3 ∧ v11 = .bool x11_3 ∧ Aside0 (cringlelaw11_RefsNumbers.l1 kq a1 t320 x6_2 x7_3 x10_3 x11_3 = some r) ∧ Aside0 (kq ≤ k2) ∧ Aside0 (Below w.heap.size w w'))
                case atStart => exact ⟨((⟨#[]⟩ : ByteArray)), (a0), (true), (by first | rfl | (simp; done) | (simp [*]; done) | (simp; unfold wrap64; omega)), (by first | rfl | (simp; done) | (simp [*]; done) | (simp; unfold wrap64; omega)), (by first | rfl | (simp; done) | (simp [*]; done) | (simp; unfold wrap64; omega)), H', ⟨Nat.le_refl _⟩, ⟨by repeat (first | (with_reducible first | exact HB.out | apply below_alloc | apply pw_below_drewN | apply below_drew1) | exact HB.out)⟩⟩
                case round =>
                  clear H'
                  try clear c1
                  try clear hcv1
                  try clear c2
                  try clear p2
                  try clear hcv2
                  try clear p3
                  try clear p6
                  try clear c7
                  try clear c8
                  try clear c8b0
                  try clear c10
                  try clear c11
                  try clear c11b0
                  try clear c12
                  try clear c13
                  try clear c14
                  try clear c14b0
                  try clear c14b1
                  try clear c14b2
                  try clear hcv17
                  try clear c18
                  try clear c18b0
                  try clear c19
                  try clear c19b0
                  try clear c19b1
                  try clear c19b2
                  try clear c22
                  try clear hcv22
                  try clear p2
                  try clear p3
                  try clear p6
                  obtain ⟨x7_3, x10_3, x11_3, rfl, rfl, rfl, HA, HK3, HB⟩ := hrel
                  cases gk with
                  | zero => exact absurd HA.out (by simp [cringlelaw11_RefsNumbers.l1])
                  | succ k3 =>
                    have H := HA.out
                    clear HA
                    simp only [cringlelaw11_RefsNumbers.l1] at H
                    by_cases c23 : x11_3 = true
                    · subst c23
                      have H1 : (if 0 ≤ (Int.tmod x10_3 16) then (if (Int.tmod x10_3 16) ≤ (((Int.tmod x10_3 16) + 1) % 4294967296) then (if (((Int.tmod x10_3 16) + 1) % 4294967296) ≤ 16 then (if ((⟨#[48, 49, 50, 51, 52, 53, 54, 55, 56, 57, 97, 98, 99, 100, 101, 102]⟩ : ByteArray).extract ((Int.tmod x10_3 16) : Int).toNat ((((Int.tmod x10_3 16) + 1) % 4294967296) : Int).toNat).size + x7_3.size ≤ 9223372036854775807 then (cringlelaw11_RefsNumbers.l1 k3 a1 t320 x6_2 (((⟨#[48, 49, 50, 51, 52, 53, 54, 55, 56, 57, 97, 98, 99, 100, 101, 102]⟩ : ByteArray).extract ((Int.tmod x10_3 16) : Int).toNat ((((Int.tmod x10_3 16) + 1) % 4294967296) : Int).toNat) ++ x7_3) ((Int.tdiv x10_3 16) % 4294967296) false) else (none)) else (none)) else (none)) else (none)) = some r := by rw [if_pos rfl] at H; exact H
                      clear H
                      have H := H1
                      clear H1
                      obtain ⟨ji24, hji24⟩ : ∃ j_ : Int, (Int.tmod x10_3 16) = j_ := ⟨_, rfl⟩
                      replace H : (if 0 ≤ (ji24) then (if (ji24) ≤ (((ji24) + 1) % 4294967296) then (if (((ji24) + 1) % 4294967296) ≤ 16 then (if ((⟨#[48, 49, 50, 51, 52, 53, 54, 55, 56, 57, 97, 98, 99, 100, 101, 102]⟩ : ByteArray).extract ((ji24) : Int).toNat ((((ji24) + 1) % 4294967296) : Int).toNat).size + x7_3.size ≤ 9223372036854775807 then (cringlelaw11_RefsNumbers.l1 k3 a1 t320 x6_2 (((⟨#[48, 49, 50, 51, 52, 53, 54, 55, 56, 57, 97, 98, 99, 100, 101, 102]⟩ : ByteArray).extract ((ji24) : Int).toNat ((((ji24) + 1) % 4294967296) : Int).toNat) ++ x7_3) ((Int.tdiv x10_3 16) % 4294967296) false) else (none)) else (none)) else (none)) else (none)) = some r := by first | (rw [hji24] at H; exact H) | (simp only [hji24] at H ⊢; exact H)
                      by_cases c25 : 0 ≤ (ji24)
                      · rw [if_pos c25] at H
                        have c25b0 := eq_true c25
                        have c25b1 : decide (0 ≤ (ji24)) = true := decide_eq_true c25
                        clear c25
                        by_cases c26 : (ji24) ≤ (((ji24) + 1) % 4294967296)
                        · rw [if_pos c26] at H
                          have c26b0 := eq_true c26
                          have c26b1 : decide ((ji24) ≤ (((ji24) + 1) % 4294967296)) = true := decide_eq_true c26
                          by_cases c27 : (((ji24) + 1) % 4294967296) ≤ 16
                          · rw [if_pos c27] at H
                            have c27b0 := eq_true c27
                            have c27b1 : decide ((((ji24) + 1) % 4294967296) ≤ 16) = true := decide_eq_true c27
                            by_cases c28 : ((⟨#[48, 49, 50, 51, 52, 53, 54, 55, 56, 57, 97, 98, 99, 100, 101, 102]⟩ : ByteArray).extract ((ji24) : Int).toNat ((((ji24) + 1) % 4294967296) : Int).toNat).size + x7_3.size ≤ 9223372036854775807
                            · rw [if_pos c28] at H
                              have c28b0 := eq_true c28
                              have c28b1 : decide (((⟨#[48, 49, 50, 51, 52, 53, 54, 55, 56, 57, 97, 98, 99, 100, 101, 102]⟩ : ByteArray).extract ((ji24) : Int).toNat ((((ji24) + 1) % 4294967296) : Int).toNat).size + x7_3.size ≤ 9223372036854775807) = true := decide_eq_true c28
                              try have c28b2 : (9223372036854775807 < ((⟨#[48, 49, 50, 51, 52, 53, 54, 55, 56, 57, 97, 98, 99, 100, 101, 102]⟩ : ByteArray).extract ((ji24) : Int).toNat ((((ji24) + 1) % 4294967296) : Int).toNat).size + x7_3.size) = False := eq_false (Nat.not_lt.2 c28)
                              have H' := Aside0.mk H
                              clear H
                              go_wp2
                              go_roundg k3
                              case measure => have := HJ3.out; have := HK2.out; have := HK3.out; omega
                              case rel => exact ⟨(((⟨#[48, 49, 50, 51, 52, 53, 54, 55, 56, 57, 97, 98, 99, 100, 101, 102]⟩ : ByteArray).extract ((ji24) : Int).toNat ((((ji24) + 1) % 4294967296) : Int).toNat) ++ x7_3), ((Int.tdiv x10_3 16) % 4294967296), (false), (by first | rfl | (simp; done) | (simp only [← hji24] <;> (first | rfl | simp)) | (simp [*]; done)), (by first | rfl | (simp; done) | (simp [*]; done) | (simp; unfold wrap64; omega)), (by first | rfl | (simp; done) | (simp [*]; done) | (simp; unfold wrap64; omega)), H', ⟨by have := HJ3.out; have := HK2.out; have := HK3.out; omega⟩, ⟨by repeat (first | (with_reducible first | exact HB.out | apply below_alloc | apply pw_below_drewN | apply below_drew1) | exact HB.out)⟩⟩
                            · rw [if_neg c28] at H
                              exact absurd H (by simp)
                          · rw [if_neg c27] at H
                            exact absurd H (by simp)
                        · rw [if_neg c26] at H
                          exact absurd H (by simp)
                      · rw [if_neg c25] at H
                        exact absurd H (by simp)
                    · replace c23 := Bool.eq_false_iff.mpr c23
                      subst c23
                      have H1 : (if x10_3 > 0 then (if 0 ≤ (Int.tmod x10_3 16) then (if (Int.tmod x10_3 16) ≤ (((Int.tmod x10_3 16) + 1) % 4294967296) then (if (((Int.tmod x10_3 16) + 1) % 4294967296) ≤ 16 then (if ((⟨#[48, 49, 50, 51, 52, 53, 54, 55, 56, 57, 97, 98, 99, 100, 101, 102]⟩ : ByteArray).extract ((Int.tmod x10_3 16) : Int).toNat ((((Int.tmod x10_3 16) + 1) % 4294967296) : Int).toNat).size + x7_3.size ≤ 9223372036854775807 then (cringlelaw11_RefsNumbers.l1 k3 a1 t320 x6_2 (((⟨#[48, 49, 50, 51, 52, 53, 54, 55, 56, 57, 97, 98, 99, 100, 101, 102]⟩ : ByteArray).extract ((Int.tmod x10_3 16) : Int).toNat ((((Int.tmod x10_3 16) + 1) % 4294967296) : Int).toNat) ++ x7_3) ((Int.tdiv x10_3 16) % 4294967296) false) else (none)) else (none)) else (none)) else (none)) else (cringlelaw11_RefsNumbers.l2 k3 t320 x6_2 x7_3 (Int.tmod a1 20) 0)) = some r := by rw [if_neg (show ¬ (false = true) by decide)] at H; exact H
                      clear H
                      have H := H1
                      clear H1
                      by_cases c29 : x10_3 > 0
                      · rw [if_pos c29] at H
                        have c29b0 : decide (0 < x10_3) = true := decide_eq_true c29
                        clear c29
                        obtain ⟨ji30, hji30⟩ : ∃ j_ : Int, (Int.tmod x10_3 16) = j_ := ⟨_, rfl⟩
                        replace H : (if 0 ≤ (ji30) then (if (ji30) ≤ (((ji30) + 1) % 4294967296) then (if (((ji30) + 1) % 4294967296) ≤ 16 then (if ((⟨#[48, 49, 50, 51, 52, 53, 54, 55, 56, 57, 97, 98, 99, 100, 101, 102]⟩ : ByteArray).extract ((ji30) : Int).toNat ((((ji30) + 1) % 4294967296) : Int).toNat).size + x7_3.size ≤ 9223372036854775807 then (cringlelaw11_RefsNumbers.l1 k3 a1 t320 x6_2 (((⟨#[48, 49, 50, 51, 52, 53, 54, 55, 56, 57, 97, 98, 99, 100, 101, 102]⟩ : ByteArray).extract ((ji30) : Int).toNat ((((ji30) + 1) % 4294967296) : Int).toNat) ++ x7_3) ((Int.tdiv x10_3 16) % 4294967296) false) else (none)) else (none)) else (none)) else (none)) = some r := by first | (rw [hji30] at H; exact H) | (simp only [hji30] at H ⊢; exact H)
                        by_cases c31 : 0 ≤ (ji30)
                        · rw [if_pos c31] at H
                          have c31b0 := eq_true c31
                          have c31b1 : decide (0 ≤ (ji30)) = true := decide_eq_true c31
                          clear c31
                          by_cases c32 : (ji30) ≤ (((ji30) + 1) % 4294967296)
                          · rw [if_pos c32] at H
                            have c32b0 := eq_true c32
                            have c32b1 : decide ((ji30) ≤ (((ji30) + 1) % 4294967296)) = true := decide_eq_true c32
                            by_cases c33 : (((ji30) + 1) % 4294967296) ≤ 16
                            · rw [if_pos c33] at H
                              have c33b0 := eq_true c33
                              have c33b1 : decide ((((ji30) + 1) % 4294967296) ≤ 16) = true := decide_eq_true c33
                              by_cases c34 : ((⟨#[48, 49, 50, 51, 52, 53, 54, 55, 56, 57, 97, 98, 99, 100, 101, 102]⟩ : ByteArray).extract ((ji30) : Int).toNat ((((ji30) + 1) % 4294967296) : Int).toNat).size + x7_3.size ≤ 9223372036854775807
                              · rw [if_pos c34] at H
                                have c34b0 := eq_true c34
                                have c34b1 : decide (((⟨#[48, 49, 50, 51, 52, 53, 54, 55, 56, 57, 97, 98, 99, 100, 101, 102]⟩ : ByteArray).extract ((ji30) : Int).toNat ((((ji30) + 1) % 4294967296) : Int).toNat).size + x7_3.size ≤ 9223372036854775807) = true := decide_eq_true c34
                                try have c34b2 : (9223372036854775807 < ((⟨#[48, 49, 50, 51, 52, 53, 54, 55, 56, 57, 97, 98, 99, 100, 101, 102]⟩ : ByteArray).extract ((ji30) : Int).toNat ((((ji30) + 1) % 4294967296) : Int).toNat).size + x7_3.size) = False := eq_false (Nat.not_lt.2 c34)
                                have H' := Aside0.mk H
                                clear H
                                go_wp2
                                go_roundg k3
                                case measure => have := HJ3.out; have := HK2.out; have := HK3.out; omega
                                case rel => exact ⟨(((⟨#[48, 49, 50, 51, 52, 53, 54, 55, 56, 57, 97, 98, 99, 100, 101, 102]⟩ : ByteArray).extract ((ji30) : Int).toNat ((((ji30) + 1) % 4294967296) : Int).toNat) ++ x7_3), ((Int.tdiv x10_3 16) % 4294967296), (false), (by first | rfl | (simp; done) | (simp only [← hji30] <;> (first | rfl | simp)) | (simp [*]; done)), (by first | rfl | (simp; done) | (simp [*]; done) | (simp; unfold wrap64; omega)), (by first | rfl | (simp; done) | (simp [*]; done) | (simp; unfold wrap64; omega)), H', ⟨by have := HJ3.out; have := HK2.out; have := HK3.out; omega⟩, ⟨by repeat (first | (with_reducible first | exact HB.out | apply below_alloc | apply pw_below_drewN | apply below_drew1) | exact HB.out)⟩⟩
                              · rw [if_neg c34] at H
                                exact absurd H (by simp)
                            · rw [if_neg c33] at H
                              exact absurd H (by simp)
                          · rw [if_neg c32] at H
                            exact absurd H (by simp)
                        · rw [if_neg c31] at H
                          exact absurd H (by simp)
                      · rw [if_neg c29] at H
                        have c29b0 : decide (0 < x10_3) = false := decide_eq_false c29
                        clear c29
                        have H' := Aside0.mk H
                        clear H
                        go_wp2
                        go_loopg [6, 7, 73] k3 (fun kq v6 v7 v73 w' => ∃ (x6_4 : ByteArray) (x7_4 : ByteArray) (x73_4 : Int), v6 = .string x6_4 ∧ v7 = .string x7_4 ∧ v73 = .int .u8 x73_4 ∧ Aside0 (cringlelaw11_RefsNumbers.l2 kq t320 x6_4 x7_4 (Int.tmod a1 20) x73_4 = some r) ∧ Aside0 (kq ≤ k3) ∧ Aside0 (Below w.heap.size w w'))
                        case atStart => exact ⟨(x6_2), (x7_3), (0), (by first | rfl | (simp; done) | (simp [*]; done) | (simp; unfold wrap64; omega)), (by first | rfl | (simp; done) | (simp [*]; done) | (simp; unfold wrap64; omega)), (by first | rfl | (simp; done) | (simp [*]; done) | (simp; unfold wrap64; omega)), H', ⟨Nat.le_refl _⟩, ⟨by repeat (first | (with_reducible first | exact HB.out | apply below_alloc | apply pw_below_drewN | apply below_drew1) | exact HB.out)⟩⟩
                        case round =>
                          clear H'
                          try clear c1
                          try clear hcv1
                          try clear c2
                          try clear p2
                          try clear hcv2
                          try clear c3
                          try clear p3
                          try clear p6
                          try clear c7
                          try clear c8
                          try clear c8b0
                          try clear c10
                          try clear c11
                          try clear c11b0
                          try clear c12
                          try clear c13
                          try clear c14
                          try clear c14b0
                          try clear c14b1
                          try clear c14b2
                          try clear hcv17
                          try clear c18
                          try clear c18b0
                          try clear c19
                          try clear c19b0
                          try clear c19b1
                          try clear c19b2
                          try clear c22
                          try clear hcv22
                          try clear c23
                          try clear c25
                          try clear c25b0
                          try clear c25b1
                          try clear c26
                          try clear c26b0
                          try clear c26b1
                          try clear c27
                          try clear c27b0
                          try clear c27b1
                          try clear c28
                          try clear c28b0
                          try clear c28b1
                          try clear c28b2
                          try clear c29
                          try clear c29b0
                          try clear c31
                          try clear c31b0
                          try clear c31b1
                          try clear c32
                          try clear c32b0
                          try clear c32b1
                          try clear p32
                          try clear c33
                          try clear c33b0
                          try clear c33b1
                          try clear c34
                          try clear c34b0
                          try clear c34b1
                          try clear c34b2
                          try clear p2
                          try clear p3
                          try clear p6
                          obtain ⟨x6_4, x7_4, x73_4, rfl, rfl, rfl, HA, HK4, HB⟩ := hrel
                          cases gk with
                          | zero => exact absurd HA.out (by simp [cringlelaw11_RefsNumbers.l2])
                          | succ k4 =>
                            have H := HA.out
                            clear HA
                            simp only [cringlelaw11_RefsNumbers.l2] at H
                            by_cases c35 : x73_4 < (Int.tmod a1 20)
                            · rw [if_pos c35] at H
                              have c35b0 : decide (x73_4 < (Int.tmod a1 20)) = true := decide_eq_true c35
                              clear c35
                              by_cases c36 : 1 + x6_4.size ≤ 9223372036854775807
                              · rw [if_pos c36] at H
                                have c36b0 := eq_true c36
                                have c36b1 : decide (1 + x6_4.size ≤ 9223372036854775807) = true := decide_eq_true c36
                                try have c36b2 : (9223372036854775807 < 1 + x6_4.size) = False := eq_false (Nat.not_lt.2 c36)
                                by_cases c37 : 1 + x7_4.size ≤ 9223372036854775807
                                · rw [if_pos c37] at H
                                  have c37b0 := eq_true c37
                                  have c37b1 : decide (1 + x7_4.size ≤ 9223372036854775807) = true := decide_eq_true c37
                                  try have c37b2 : (9223372036854775807 < 1 + x7_4.size) = False := eq_false (Nat.not_lt.2 c37)
                                  have H' := Aside0.mk H
                                  clear H
                                  go_wp2
                                  go_roundg k4
                                  case measure => have := HJ3.out; have := HK2.out; have := HK3.out; have := HK4.out; omega
                                  case rel => exact ⟨((⟨#[48]⟩ : ByteArray) ++ x6_4), ((⟨#[48]⟩ : ByteArray) ++ x7_4), ((x73_4 + 1) % 256), (by first | rfl | (simp; done) | (simp [*]; done) | (simp; unfold wrap64; omega)), (by first | rfl | (simp; done) | (simp [*]; done) | (simp; unfold wrap64; omega)), (by first | rfl | (simp; done) | (simp [*]; done) | (simp; unfold wrap64; omega)), H', ⟨by have := HJ3.out; have := HK2.out; have := HK3.out; have := HK4.out; omega⟩, ⟨by repeat (first | (with_reducible first | exact HB.out | apply below_alloc | apply pw_below_drewN | apply below_drew1) | exact HB.out)⟩⟩
                                · rw [if_neg c37] at H
                                  exact absurd H (by simp)
                              · rw [if_neg c36] at H
                                exact absurd H (by simp)
                            · rw [if_neg c35] at H
                              have c35b0 : decide (x73_4 < (Int.tmod a1 20)) = false := decide_eq_false c35
                              clear c35
                              obtain ⟨y329, hy329⟩ : ∃ y_ : List Int, y_ = (([t320] : List Int)) := ⟨_, rfl⟩
                              replace H : ((cringleref02_Put.f k4 ([] : List Int) y329).bind fun t332 => (if 2 + x6_4.size ≤ 9223372036854775807 then (if ((⟨#[38, 35]⟩ : ByteArray) ++ x6_4).size + 1 ≤ 9223372036854775807 then (if 3 + x7_4.size ≤ 9223372036854775807 then (if ((⟨#[38, 35, 120]⟩ : ByteArray) ++ x7_4).size + 1 ≤ 9223372036854775807 then (if ((⟨#[38, 35, 88]⟩ : ByteArray) ++ x7_4).size + 1 ≤ 9223372036854775807 then ((some (([((⟨#[38, 35]⟩ : ByteArray) ++ x6_4) ++ (⟨#[59]⟩ : ByteArray), ((⟨#[38, 35, 120]⟩ : ByteArray) ++ x7_4) ++ (⟨#[59]⟩ : ByteArray), ((⟨#[38, 35, 88]⟩ : ByteArray) ++ x7_4) ++ (⟨#[59]⟩ : ByteArray)] : List ByteArray) : List ByteArray)).bind fun y335 => (cringlelaw11_RefsNumbers.l3 k4 x6_4 (strOfNums t332) y335 (y335.length : Int) 0)) else (none)) else (none)) else (none)) else (none)) else (none))) = some r := by first | (rw [hy329]; with_reducible exact H) | (have H2_ := (Option.bind_some _ _).symm.trans H; rw [hy329]; with_reducible exact H2_) | (have H2_ := (Option.bind_some _ _).symm.trans H; with_reducible exact H2_) | with_reducible exact H | (rw [hy329]; exact H) | exact H
                              have Ny329 := Aside0.mk hy329
                              clear hy329
                              replace H := Option.bind_eq_some_iff.mp H
                              obtain ⟨t332, A380, H⟩ := H
                              replace H : (if 2 + x6_4.size ≤ 9223372036854775807 then (if ((⟨#[38, 35]⟩ : ByteArray) ++ x6_4).size + 1 ≤ 9223372036854775807 then (if 3 + x7_4.size ≤ 9223372036854775807 then (if ((⟨#[38, 35, 120]⟩ : ByteArray) ++ x7_4).size + 1 ≤ 9223372036854775807 then (if ((⟨#[38, 35, 88]⟩ : ByteArray) ++ x7_4).size + 1 ≤ 9223372036854775807 then ((some (([((⟨#[38, 35]⟩ : ByteArray) ++ x6_4) ++ (⟨#[59]⟩ : ByteArray), ((⟨#[38, 35, 120]⟩ : ByteArray) ++ x7_4) ++ (⟨#[59]⟩ : ByteArray), ((⟨#[38, 35, 88]⟩ : ByteArray) ++ x7_4) ++ (⟨#[59]⟩ : ByteArray)] : List ByteArray) : List ByteArray)).bind fun y335 => (cringlelaw11_RefsNumbers.l3 k4 x6_4 (strOfNums t332) y335 (y335.length : Int) 0)) else (none)) else (none)) else (none)) else (none)) else (none)) = some r := H
                              have A38 := Aside0.mk A380
                              clear A380
                              by_cases c39 : 2 + x6_4.size ≤ 9223372036854775807
                              · rw [if_pos c39] at H
                                have c39b0 := eq_true c39
                                have c39b1 : decide (2 + x6_4.size ≤ 9223372036854775807) = true := decide_eq_true c39
                                try have c39b2 : (9223372036854775807 < 2 + x6_4.size) = False := eq_false (Nat.not_lt.2 c39)
                                by_cases c40 : ((⟨#[38, 35]⟩ : ByteArray) ++ x6_4).size + 1 ≤ 9223372036854775807
                                · rw [if_pos c40] at H
                                  have c40b0 := eq_true c40
                                  have c40b1 : decide (((⟨#[38, 35]⟩ : ByteArray) ++ x6_4).size + 1 ≤ 9223372036854775807) = true := decide_eq_true c40
                                  try have c40b2 : (9223372036854775807 < ((⟨#[38, 35]⟩ : ByteArray) ++ x6_4).size + 1) = False := eq_false (Nat.not_lt.2 c40)
                                  try have c40b8 : (9223372036854775807 < 2 + x6_4.size + 1) = False := eq_false (by have h_ := c40; rw [ByteArray.size_append, show (⟨#[38, 35]⟩ : ByteArray).size = 2 from rfl] at h_; omega)
                                  by_cases c41 : 3 + x7_4.size ≤ 9223372036854775807
                                  · rw [if_pos c41] at H
                                    have c41b0 := eq_true c41
                                    have c41b1 : decide (3 + x7_4.size ≤ 9223372036854775807) = true := decide_eq_true c41
                                    try have c41b2 : (9223372036854775807 < 3 + x7_4.size) = False := eq_false (Nat.not_lt.2 c41)
                                    by_cases c42 : ((⟨#[38, 35, 120]⟩ : ByteArray) ++ x7_4).size + 1 ≤ 9223372036854775807
                                    · rw [if_pos c42] at H
                                      have c42b0 := eq_true c42
                                      have c42b1 : decide (((⟨#[38, 35, 120]⟩ : ByteArray) ++ x7_4).size + 1 ≤ 9223372036854775807) = true := decide_eq_true c42
                                      try have c42b2 : (9223372036854775807 < ((⟨#[38, 35, 120]⟩ : ByteArray) ++ x7_4).size + 1) = False := eq_false (Nat.not_lt.2 c42)
                                      try have c42b8 : (9223372036854775807 < 3 + x7_4.size + 1) = False := eq_false (by have h_ := c42; rw [ByteArray.size_append, show (⟨#[38, 35, 120]⟩ : ByteArray).size = 3 from rfl] at h_; omega)
                                      by_cases c43 : ((⟨#[38, 35, 88]⟩ : ByteArray) ++ x7_4).size + 1 ≤ 9223372036854775807
                                      · rw [if_pos c43] at H
                                        have c43b0 := eq_true c43
                                        have c43b1 : decide (((⟨#[38, 35, 88]⟩ : ByteArray) ++ x7_4).size + 1 ≤ 9223372036854775807) = true := decide_eq_true c43
                                        try have c43b2 : (9223372036854775807 < ((⟨#[38, 35, 88]⟩ : ByteArray) ++ x7_4).size + 1) = False := eq_false (Nat.not_lt.2 c43)
                                        try have c43b8 : (9223372036854775807 < 3 + x7_4.size + 1) = False := eq_false (by have h_ := c43; rw [ByteArray.size_append, show (⟨#[38, 35, 88]⟩ : ByteArray).size = 3 from rfl] at h_; omega)
                                        obtain ⟨y335, hy335⟩ : ∃ y_ : List ByteArray, y_ = (([((⟨#[38, 35]⟩ : ByteArray) ++ x6_4) ++ (⟨#[59]⟩ : ByteArray), ((⟨#[38, 35, 120]⟩ : ByteArray) ++ x7_4) ++ (⟨#[59]⟩ : ByteArray), ((⟨#[38, 35, 88]⟩ : ByteArray) ++ x7_4) ++ (⟨#[59]⟩ : ByteArray)] : List ByteArray)) := ⟨_, rfl⟩
                                        replace H : (cringlelaw11_RefsNumbers.l3 k4 x6_4 (strOfNums t332) y335 (y335.length : Int) 0) = some r := by first | (rw [hy335]; with_reducible exact H) | (have H2_ := (Option.bind_some _ _).symm.trans H; rw [hy335]; with_reducible exact H2_) | (have H2_ := (Option.bind_some _ _).symm.trans H; with_reducible exact H2_) | with_reducible exact H | (rw [hy335]; exact H) | exact H
                                        have Ny335 := Aside0.mk hy335
                                        clear hy335
                                        have H' := Aside0.mk H
                                        clear H
                                        go_wp2_with (first | ((with_reducible refine gate_dst (N := 81) rfl ?_); refine Kd.R_lit (Kd.int .i32) _ 21 ?hg (N := 81) ?hd (xs := ([t320] : List Int)) (inner := [.int .i32 t320]) (ok := fun _ => True) (okp := fun _ => True) ?hr ?hp (fun _ hk => hk) trivial (Below.refl _ _) (Nat.le_refl _) (by simp) ?_; (case hd => rfl); (case hg => rfl); (case hr => first | (go_simp; done) | (go_simp; rfl)); (case hp => exact (Reps.one (show Kd.M (Kd.int .i32) _ _ _ t320 [.int .i32 t320] from rfl) (Reps.none _ _))); intro v330 w44 ho45 hb hg_ hnew_; clear hg_ hnew_; (first | rw [← Ny329.out] at ho45 | (simp only [Int.reduceToNat] at ho45; rw [← Ny329.out] at ho45)); have n0_ := Aside0.mk (Kd.R_lower ho45 (below_size (by repeat (first | (with_reducible first | exact HB.out | apply below_alloc | apply pw_below_drewN | apply below_drew1) | exact HB.out)))); have n1_ := Aside0.mk (below_step (by repeat (first | (with_reducible first | exact HB.out | apply below_alloc | apply pw_below_drewN | apply below_drew1) | exact HB.out)) hb); clear HB; have HO331 := n0_; have HB := n1_; clear n0_ n1_; clear hb ho45; obtain ⟨Ao46, co46, eo46⟩ := Kd.R_slice HO331.out; subst eo46) | ((with_reducible refine gate_callee (f := 23) rfl ?_); refine goesL_ (some 82) rfl rfl Tryd.func23 (by kernel_rfl) rfl #[.slice none 0 0, .slice Ao46 y329.length co46] rfl (by (try simp only [List.map_toArray, List.map_cons, List.map_nil]); first | done | rfl | (simp only [List.length_drop, List.length_take]; rfl)) ?_; (refine (cringleref02_Put.calls k4 _ _ ([] : List Int) _ _ y329 t332 _ ?side1 ?side2 ?side3 ?side4 A38.out).mono ?_); (case side1 => exact Kd.C_nil _ _); (case side2 => exact Nat.le_refl _); (case side3 => repeat (first | exact (Kd.R_reads' HO331.out).2.2 | (with_reducible refine Kd.C_alloc ?_ _) | (with_reducible refine Kd.C_drewN ?_ _) | (with_reducible refine Kd.C_drew ?_))); (case side4 => exact (Kd.R_reads' HO331.out).2.1); rintro e w47 ⟨v333, rfl, ho0, hb⟩; refine ⟨_, rfl, ?_⟩; have n0_ := Aside0.mk (Kd.R_below (by (with_reducible repeat (first | apply Kd.R_alloc | apply Kd.R_drewN | apply Kd.R_drew)); exact HO331.out) hb); have n1_ := Aside0.mk (Kd.R_lower ho0 (below_size (by repeat (first | (with_reducible first | exact HB.out | apply below_alloc | apply pw_below_drewN | apply below_drew1) | exact HB.out)))); have n2_ := Aside0.mk (below_step (by repeat (first | (with_reducible first | exact HB.out | apply below_alloc | apply pw_below_drewN | apply below_drew1) | exact HB.out)) hb); clear HO331; clear HB; have HO331 := n0_; have HO334 := n1_; have HB := n2_; clear n0_ n1_ n2_; (try clear hb); (try clear hb2); (try clear hk); (try clear hi); (try clear ho0); have hcv48 := own_string (P := Tryd.prog) Tryd.underlying34 Tryd.underlying5 Tryd.underlying9 (Kd.own_of_R HO334.out)) | ((with_reducible refine gate_dst (N := 93) rfl ?_); refine Kd.R_lit Kd.string _ 9 ?hg (N := 93) ?hd (xs := ([((⟨#[38, 35]⟩ : ByteArray) ++ x6_4) ++ (⟨#[59]⟩ : ByteArray), ((⟨#[38, 35, 120]⟩ : ByteArray) ++ x7_4) ++ (⟨#[59]⟩ : ByteArray), ((⟨#[38, 35, 88]⟩ : ByteArray) ++ x7_4) ++ (⟨#[59]⟩ : ByteArray)] : List ByteArray)) (inner := [.string (((⟨#[38, 35]⟩ : ByteArray) ++ x6_4) ++ (⟨#[59]⟩ : ByteArray)), .string (((⟨#[38, 35, 120]⟩ : ByteArray) ++ x7_4) ++ (⟨#[59]⟩ : ByteArray)), .string (((⟨#[38, 35, 88]⟩ : ByteArray) ++ x7_4) ++ (⟨#[59]⟩ : ByteArray))]) (ok := fun _ => True) (okp := fun _ => True) ?hr ?hp (fun _ hk => hk) trivial (Below.refl _ _) (Nat.le_refl _) (by simp) ?_; (case hd => rfl); (case hg => rfl); (case hr => first | (go_simp; done) | (go_simp; rfl)); (case hp => exact (Reps.one (show Kd.M Kd.string _ _ _ (((⟨#[38, 35]⟩ : ByteArray) ++ x6_4) ++ (⟨#[59]⟩ : ByteArray)) [.string (((⟨#[38, 35]⟩ : ByteArray) ++ x6_4) ++ (⟨#[59]⟩ : ByteArray))] from rfl) (Reps.one (show Kd.M Kd.string _ _ _ (((⟨#[38, 35, 120]⟩ : ByteArray) ++ x7_4) ++ (⟨#[59]⟩ : ByteArray)) [.string (((⟨#[38, 35, 120]⟩ : ByteArray) ++ x7_4) ++ (⟨#[59]⟩ : ByteArray))] from rfl) (Reps.one (show Kd.M Kd.string _ _ _ (((⟨#[38, 35, 88]⟩ : ByteArray) ++ x7_4) ++ (⟨#[59]⟩ : ByteArray)) [.string (((⟨#[38, 35, 88]⟩ : ByteArray) ++ x7_4) ++ (⟨#[59]⟩ : ByteArray))] from rfl) (Reps.none _ _))))); intro v336 w49 ho50 hb hg_ hnew_; clear hg_ hnew_; (first | rw [← Ny335.out] at ho50 | (simp only [Int.reduceToNat] at ho50; rw [← Ny335.out] at ho50)); have n0_ := Aside0.mk (Kd.R_below (by (with_reducible repeat (first | apply Kd.R_alloc | apply Kd.R_drewN | apply Kd.R_drew)); exact HO331.out) hb); have n1_ := Aside0.mk (Kd.R_below (by (with_reducible repeat (first | apply Kd.R_alloc | apply Kd.R_drewN | apply Kd.R_drew)); exact HO334.out) hb); have n2_ := Aside0.mk (Kd.R_lower ho50 (below_size (by repeat (first | (with_reducible first | exact HB.out | apply below_alloc | apply pw_below_drewN | apply below_drew1) | exact HB.out)))); have n3_ := Aside0.mk (below_step (by repeat (first | (with_reducible first | exact HB.out | apply below_alloc | apply pw_below_drewN | apply below_drew1) | exact HB.out)) hb); clear HO331; clear HO334; clear HB; have HO331 := n0_; have HO334 := n1_; have HO337 := n2_; have HB := n3_; clear n0_ n1_ n2_ n3_; clear hb ho50; obtain ⟨Ao51, co51, eo51⟩ := Kd.R_slice HO337.out; subst eo51))
                                        go_loopg [95] k4 (fun kq v95 w' => ∃ (x95_5 : Int), v95 = .int .i64 x95_5 ∧ Aside0 (cringlelaw11_RefsNumbers.l3 kq x6_4 (strOfNums t332) y335 (y335.length : Int) x95_5 = some r) ∧ Aside0 (kq ≤ k4) ∧ Aside0 (Kd.R Kd.string 9 w' w.heap.size (fun _ => True) (.slice Ao51 y335.length co51) y335) ∧ Aside0 (Below w.heap.size w w'))
                                        case atStart => exact ⟨(0), (by first | rfl | (simp; done) | (simp [*]; done) | (simp; unfold wrap64; omega)), H', ⟨Nat.le_refl _⟩, ⟨by (with_reducible repeat (first | apply Kd.R_alloc | apply Kd.R_drewN | apply Kd.R_drew)); exact HO337.out⟩, ⟨by repeat (first | (with_reducible first | exact HB.out | apply below_alloc | apply pw_below_drewN | apply below_drew1) | exact HB.out)⟩⟩
                                        case round =>
                                          clear H'
                                          try clear c1
                                          try clear hcv1
                                          try clear c2
                                          try clear p2
                                          try clear hcv2
                                          try clear c3
                                          try clear p3
                                          try clear c4
                                          try clear hcv4
                                          try clear p6
                                          try clear c7
                                          try clear c8
                                          try clear c8b0
                                          try clear c10
                                          try clear c11
                                          try clear c11b0
                                          try clear c12
                                          try clear c13
                                          try clear c14
                                          try clear c14b0
                                          try clear c14b1
                                          try clear c14b2
                                          try clear hcv17
                                          try clear c18
                                          try clear c18b0
                                          try clear c19
                                          try clear c19b0
                                          try clear c19b1
                                          try clear c19b2
                                          try clear c22
                                          try clear hcv22
                                          try clear c23
                                          try clear c25
                                          try clear c25b0
                                          try clear c25b1
                                          try clear c26
                                          try clear c26b0
                                          try clear c26b1
                                          try clear c27
                                          try clear c27b0
                                          try clear c27b1
                                          try clear c28
                                          try clear c28b0
                                          try clear c28b1
                                          try clear c28b2
                                          try clear c29
                                          try clear c29b0
                                          try clear c31
                                          try clear c31b0
                                          try clear c31b1
                                          try clear c32
                                          try clear c32b0
                                          try clear c32b1
                                          try clear p32
                                          try clear c33
                                          try clear c33b0
                                          try clear c33b1
                                          try clear c34
                                          try clear c34b0
                                          try clear c34b1
                                          try clear c34b2
                                          try clear c35
                                          try clear c35b0
                                          try clear c36
                                          try clear c36b0
                                          try clear c36b1
                                          try clear c36b2
                                          try clear c37
                                          try clear c37b0
                                          try clear c37b1
                                          try clear c37b2
                                          try clear c39
                                          try clear c39b0
                                          try clear c39b1
                                          try clear c39b2
                                          try clear c40
                                          try clear c40b0
                                          try clear c40b1
                                          try clear c40b2
                                          try clear c41
                                          try clear c41b0
                                          try clear c41b1
                                          try clear c41b2
                                          try clear c42
                                          try clear c42b0
                                          try clear c42b1
                                          try clear c42b2
                                          try clear c43
                                          try clear c43b0
                                          try clear c43b1
                                          try clear c43b2
                                          try clear hcv48
                                          try clear p2
                                          try clear p3
                                          try clear p32
                                          try clear p6
                                          obtain ⟨x95_5, rfl, HA, HK5, HO_93, HB⟩ := hrel
                                          cases gk with
                                          | zero => exact absurd HA.out (by simp [cringlelaw11_RefsNumbers.l3])
                                          | succ k5 =>
                                            have H := HA.out
                                            clear HA
                                            simp only [cringlelaw11_RefsNumbers.l3] at H
                                            by_cases c52 : x95_5 < (y335.length : Int)
                                            · rw [if_pos c52] at H
                                              have c52b0 : decide (x95_5 < (y335.length : Int)) = true := decide_eq_true c52
                                              clear c52
                                              by_cases c53 : 0 ≤ x95_5
                                              · rw [if_pos c53] at H
                                                have c53b0 : decide (0 ≤ x95_5) = true := decide_eq_true c53
                                                clear c53
                                                by_cases c54 : x95_5 < (y335.length : Int)
                                                · rw [if_pos c54] at H
                                                  have c54b0 : decide (x95_5 < (y335.length : Int)) = true := decide_eq_true c54
                                                  clear c54
                                                  replace H := Option.bind_eq_some_iff.mp H
                                                  obtain ⟨t341, A550, H⟩ := H
                                                  replace H : (if t341.toList = (strOfNums t332).toList then (if (rdOf ByteArray.empty y335 x95_5).size + 1 ≤ 9223372036854775807 then ((refs_Decode.f k5 ((rdOf ByteArray.empty y335 x95_5) ++ (⟨#[33]⟩ : ByteArray)) true).bind fun t342 => (if (strOfNums t332).size + 1 ≤ 9223372036854775807 then (if t342.toList = ((strOfNums t332) ++ (⟨#[33]⟩ : ByteArray)).toList then (cringlelaw11_RefsNumbers.l3 k5 x6_4 (strOfNums t332) y335 (y335.length : Int) (wrap64 (x95_5 + 1))) else (some false)) else (none))) else (none)) else (some false)) = some r := H
                                                  have A55 := Aside0.mk A550
                                                  clear A550
                                                  by_cases c56 : t341.toList = (strOfNums t332).toList
                                                  · rw [if_pos c56] at H
                                                    have c56b0 : (t341.toList == (strOfNums t332).toList) = true := beq_iff_eq.mpr c56
                                                    have c56b1 : (t341.toList != (strOfNums t332).toList) = false := bne_eq_false_iff_eq.mpr c56
                                                    clear c56
                                                    by_cases c57 : (rdOf ByteArray.empty y335 x95_5).size + 1 ≤ 9223372036854775807
                                                    · rw [if_pos c57] at H
                                                      have c57b0 := eq_true c57
                                                      have c57b1 : decide ((rdOf ByteArray.empty y335 x95_5).size + 1 ≤ 9223372036854775807) = true := decide_eq_true c57
                                                      try have c57b2 : (9223372036854775807 < (rdOf ByteArray.empty y335 x95_5).size + 1) = False := eq_false (Nat.not_lt.2 c57)
                                                      replace H := Option.bind_eq_some_iff.mp H
                                                      obtain ⟨t342, A580, H⟩ := H
                                                      replace H : (if (strOfNums t332).size + 1 ≤ 9223372036854775807 then (if t342.toList = ((strOfNums t332) ++ (⟨#[33]⟩ : ByteArray)).toList then (cringlelaw11_RefsNumbers.l3 k5 x6_4 (strOfNums t332) y335 (y335.length : Int) (wrap64 (x95_5 + 1))) else (some false)) else (none)) = some r := H
                                                      have A58 := Aside0.mk A580
                                                      clear A580
                                                      by_cases c59 : (strOfNums t332).size + 1 ≤ 9223372036854775807
                                                      · rw [if_pos c59] at H
                                                        have c59b0 := eq_true c59
                                                        have c59b1 : decide ((strOfNums t332).size + 1 ≤ 9223372036854775807) = true := decide_eq_true c59
                                                        try have c59b2 : (9223372036854775807 < (strOfNums t332).size + 1) = False := eq_false (Nat.not_lt.2 c59)
                                                        by_cases c60 : t342.toList = ((strOfNums t332) ++ (⟨#[33]⟩ : ByteArray)).toList
                                                        · rw [if_pos c60] at H
                                                          have c60b0 : (t342.toList == ((strOfNums t332) ++ (⟨#[33]⟩ : ByteArray)).toList) = true := beq_iff_eq.mpr c60
                                                          have c60b1 : (t342.toList != ((strOfNums t332) ++ (⟨#[33]⟩ : ByteArray)).toList) = false := bne_eq_false_iff_eq.mpr c60
                                                          clear c60
                                                          have H' := Aside0.mk H
                                                          clear H
                                                          have p340 : 0 ≤ (x95_5 : Int) := of_decide_eq_true (by first | (with_reducible assumption) | assumption)
                                                          have q340 : x95_5 < (y335.length : Int) := of_decide_eq_true (by first | (with_reducible assumption) | assumption)
                                                          obtain ⟨ad340, e340, hx340_0⟩ := Kd.at_string (Kd.R_reads' HO_93.out).2.2 x95_5 p340 q340
                                                          cases e340
                                                          replace p340 := eq_true p340
                                                          replace q340 := eq_true q340
                                                          go_wp2_with (first | ((with_reducible refine gate_callee (f := 17) rfl ?_); refine goesL_ (some 100) rfl rfl Tryd.func17 (by kernel_rfl) rfl #[.string (rdOf ByteArray.empty y335 x95_5), .bool false] rfl (by (try simp only [List.map_toArray, List.map_cons, List.map_nil]); first | done | rfl | (simp only [List.length_drop, List.length_take]; rfl)) ?_; (with_reducible refine (refs_Decode.calls k5 (rdOf ByteArray.empty y335 x95_5) false t341 _ A55.out).mono ?_); rintro e w61 ⟨rfl, hb⟩; refine ⟨_, rfl, ?_⟩; have n0_ := Aside0.mk (Kd.R_below (by (with_reducible repeat (first | apply Kd.R_alloc | apply Kd.R_drewN | apply Kd.R_drew)); exact HO_93.out) hb); have n1_ := Aside0.mk (below_step (by repeat (first | (with_reducible first | exact HB.out | apply below_alloc | apply pw_below_drewN | apply below_drew1) | exact HB.out)) hb); clear HO_93; clear HB; have HO_93 := n0_; have HB := n1_; clear n0_ n1_; (try clear hb); (try clear hb2); (try clear hk); (try clear hi)) | (go_at_call 17; (with_reducible refine (refs_Decode.calls k5 ((rdOf ByteArray.empty y335 x95_5) ++ (⟨#[33]⟩ : ByteArray)) true t342 _ A58.out).mono ?_); rintro e w62 ⟨rfl, hb⟩; have n0_ := Aside0.mk (Kd.R_below (by (with_reducible repeat (first | apply Kd.R_alloc | apply Kd.R_drewN | apply Kd.R_drew)); exact HO_93.out) hb); have n1_ := Aside0.mk (below_step (by repeat (first | (with_reducible first | exact HB.out | apply below_alloc | apply pw_below_drewN | apply below_drew1) | exact HB.out)) hb); clear HO_93; clear HB; have HO_93 := n0_; have HB := n1_; clear n0_ n1_; (try clear hb); (try clear hb2); (try clear hk); (try clear hi)))
                                                          go_roundg k5
                                                          case measure => have := HJ3.out; have := HK2.out; have := HK3.out; have := HK4.out; have := HK5.out; omega
                                                          case rel => exact ⟨(wrap64 (x95_5 + 1)), (by first | rfl | (simp; done) | (simp [*]; done) | (simp; unfold wrap64; omega)), H', ⟨by have := HJ3.out; have := HK2.out; have := HK3.out; have := HK4.out; have := HK5.out; omega⟩, ⟨by (with_reducible repeat (first | apply Kd.R_alloc | apply Kd.R_drewN | apply Kd.R_drew)); exact HO_93.out⟩, ⟨by repeat (first | (with_reducible first | exact HB.out | apply below_alloc | apply pw_below_drewN | apply below_drew1) | exact HB.out)⟩⟩
                                                        · rw [if_neg c60] at H
                                                          have c60b0 : (t342.toList == ((strOfNums t332) ++ (⟨#[33]⟩ : ByteArray)).toList) = false := beq_eq_false_iff_ne.mpr c60
                                                          have c60b1 : (t342.toList != ((strOfNums t332) ++ (⟨#[33]⟩ : ByteArray)).toList) = true := bne_iff_ne.mpr c60
                                                          exact absurd (Option.some.inj H) (by rw [htrue.out]; decide)
                                                      · rw [if_neg c59] at H
                                                        exact absurd H (by simp)
                                                    · rw [if_neg c57] at H
                                                      exact absurd H (by simp)
                                                  · rw [if_neg c56] at H
                                                    have c56b0 : (t341.toList == (strOfNums t332).toList) = false := beq_eq_false_iff_ne.mpr c56
                                                    have c56b1 : (t341.toList != (strOfNums t332).toList) = true := bne_iff_ne.mpr c56
                                                    exact absurd (Option.some.inj H) (by rw [htrue.out]; decide)
                                                · rw [if_neg c54] at H
                                                  exact absurd H (by simp)
                                              · rw [if_neg c53] at H
                                                exact absurd H (by simp)
                                            · rw [if_neg c52] at H
                                              have c52b0 : decide (x95_5 < (y335.length : Int)) = false := decide_eq_false c52
                                              clear c52
                                              by_cases c63 : 2 + x6_4.size ≤ 9223372036854775807
                                              · rw [if_pos c63] at H
                                                have c63b0 := eq_true c63
                                                have c63b1 : decide (2 + x6_4.size ≤ 9223372036854775807) = true := decide_eq_true c63
                                                try have c63b2 : (9223372036854775807 < 2 + x6_4.size) = False := eq_false (Nat.not_lt.2 c63)
                                                by_cases c64 : ((⟨#[38, 35]⟩ : ByteArray) ++ x6_4).size + 1 ≤ 9223372036854775807
                                                · rw [if_pos c64] at H
                                                  have c64b0 := eq_true c64
                                                  have c64b1 : decide (((⟨#[38, 35]⟩ : ByteArray) ++ x6_4).size + 1 ≤ 9223372036854775807) = true := decide_eq_true c64
                                                  try have c64b2 : (9223372036854775807 < ((⟨#[38, 35]⟩ : ByteArray) ++ x6_4).size + 1) = False := eq_false (Nat.not_lt.2 c64)
                                                  try have c64b8 : (9223372036854775807 < 2 + x6_4.size + 1) = False := eq_false (by have h_ := c64; rw [ByteArray.size_append, show (⟨#[38, 35]⟩ : ByteArray).size = 2 from rfl] at h_; omega)
                                                  replace H := Option.bind_eq_some_iff.mp H
                                                  obtain ⟨t338, A650, H⟩ := H
                                                  replace H : (if (strOfNums t332).size + 1 ≤ 9223372036854775807 then (if t338.toList = ((strOfNums t332) ++ (⟨#[32]⟩ : ByteArray)).toList then ((cringlelaw11_alive.f k5).bind fun t339 => (some t339)) else (some false)) else (none)) = some r := H
                                                  have A65 := Aside0.mk A650
                                                  clear A650
                                                  by_cases c66 : (strOfNums t332).size + 1 ≤ 9223372036854775807
                                                  · rw [if_pos c66] at H
                                                    have c66b0 := eq_true c66
                                                    have c66b1 : decide ((strOfNums t332).size + 1 ≤ 9223372036854775807) = true := decide_eq_true c66
                                                    try have c66b2 : (9223372036854775807 < (strOfNums t332).size + 1) = False := eq_false (Nat.not_lt.2 c66)
                                                    by_cases c67 : t338.toList = ((strOfNums t332) ++ (⟨#[32]⟩ : ByteArray)).toList
                                                    · rw [if_pos c67] at H
                                                      have c67b0 : (t338.toList == ((strOfNums t332) ++ (⟨#[32]⟩ : ByteArray)).toList) = true := beq_iff_eq.mpr c67
                                                      have c67b1 : (t338.toList != ((strOfNums t332) ++ (⟨#[32]⟩ : ByteArray)).toList) = false := bne_eq_false_iff_eq.mpr c67
                                                      clear c67
                                                      replace H := Option.bind_eq_some_iff.mp H
                                                      obtain ⟨t339, A680, H⟩ := H
                                                      replace H : (some t339) = some r := H
                                                      have A68 := Aside0.mk A680
                                                      clear A680
                                                      obtain rfl := Option.some.inj H
                                                      go_wp2_with (first | ((with_reducible refine gate_callee (f := 17) rfl ?_); refine goesL_ (some 115) rfl rfl Tryd.func17 (by kernel_rfl) rfl #[.string (((⟨#[38, 35]⟩ : ByteArray) ++ x6_4) ++ (⟨#[32]⟩ : ByteArray)), .bool false] rfl (by (try simp only [List.map_toArray, List.map_cons, List.map_nil]); first | done | rfl | (simp only [List.length_drop, List.length_take]; rfl)) ?_; (with_reducible refine (refs_Decode.calls k5 (((⟨#[38, 35]⟩ : ByteArray) ++ x6_4) ++ (⟨#[32]⟩ : ByteArray)) false t338 _ A65.out).mono ?_); rintro e w69 ⟨rfl, hb⟩; refine ⟨_, rfl, ?_⟩; have n0_ := Aside0.mk (Kd.R_below (by (with_reducible repeat (first | apply Kd.R_alloc | apply Kd.R_drewN | apply Kd.R_drew)); exact HO_93.out) hb); have n1_ := Aside0.mk (below_step (by repeat (first | (with_reducible first | exact HB.out | apply below_alloc | apply pw_below_drewN | apply below_drew1) | exact HB.out)) hb); clear HO_93; clear HB; have HO_93 := n0_; have HB := n1_; clear n0_ n1_; (try clear hb); (try clear hb2); (try clear hk); (try clear hi)) | (go_at_call 13; (with_reducible refine (cringlelaw11_alive.calls k5  t339 _ A68.out).mono ?_); rintro e w70 ⟨rfl, hb⟩; have n0_ := Aside0.mk (Kd.R_below (by (with_reducible repeat (first | apply Kd.R_alloc | apply Kd.R_drewN | apply Kd.R_drew)); exact HO_93.out) hb); have n1_ := Aside0.mk (below_step (by repeat (first | (with_reducible first | exact HB.out | apply below_alloc | apply pw_below_drewN | apply below_drew1) | exact HB.out)) hb); clear HO_93; clear HB; have HO_93 := n0_; have HB := n1_; clear n0_ n1_; (try clear hb); (try clear hb2); (try clear hk); (try clear hi)))
                                                      go_ret
                                                      exact ⟨by first | rfl | (simp [errW_none, errW_some] <;> rfl) | (simp [*, errW_none, errW_some] <;> rfl), by repeat (first | (with_reducible first | exact HB.out | apply below_alloc | apply pw_below_drewN | apply below_drew1) | exact HB.out)⟩
                                                    · rw [if_neg c67] at H
                                                      have c67b0 : (t338.toList == ((strOfNums t332) ++ (⟨#[32]⟩ : ByteArray)).toList) = false := beq_eq_false_iff_ne.mpr c67
                                                      have c67b1 : (t338.toList != ((strOfNums t332) ++ (⟨#[32]⟩ : ByteArray)).toList) = true := bne_iff_ne.mpr c67
                                                      exact absurd (Option.some.inj H) (by rw [htrue.out]; decide)
                                                  · rw [if_neg c66] at H
                                                    exact absurd H (by simp)
                                                · rw [if_neg c64] at H
                                                  exact absurd H (by simp)
                                              · rw [if_neg c63] at H
                                                exact absurd H (by simp)
                                      · rw [if_neg c43] at H
                                        exact absurd H (by simp)
                                    · rw [if_neg c42] at H
                                      exact absurd H (by simp)
                                  · rw [if_neg c41] at H
                                    exact absurd H (by simp)
                                · rw [if_neg c40] at H
                                  exact absurd H (by simp)
                              · rw [if_neg c39] at H
                                exact absurd H (by simp)

end Go.Proofs.YtekijemacjpceaaDoor.Q
