/- The walk of DateZones: by hand. No condition but those typed. -/
import Derived.Test.YtfoikdjffemhbaaDoorQ
namespace Go.Proofs.YtfoikdjffemhbaaDoor.Q
open Go.RowKit Go.Proofs.YtfoikdjffemhbaaDoorW.PrintWords Go.Proofs.YtfoikdjffemhbaaDoorW.PrintLast Go.Proofs.YtfoikdjffemhbaaDoorW.PrintMore
attribute [local go_sem] max2_int min2_int max_two min_two max_three min_three max_four min_four   -- for this text's walks alone
set_option linter.unusedVariables false
set_option linter.unusedSimpArgs false
def cringlelaw06_DateZones.body (k : Nat) (n ah : Int) (s sign : ByteArray) : List ByteArray → Option Bool
  | [] => cringlelaw06_alive.f k
  | z :: r => (date_Parse.f k (s ++ sign ++ z)).bind fun x => (date_Zone.f k (sign ++ z)).bind fun y => if x.2.2.2 = 0 then (if y.2 = 0 then (if x.1 = wrap64 (n - ah) then (if y.1 = ah then cringlelaw06_DateZones.body k n ah s sign r else some false) else some false) else some false) else some false
def cringlelaw06_DateZones.two (x : Int) : ByteArray := strOfNums [(wrap64 (48 + (wrap64 (Int.tdiv x 10)))) % 256, (wrap64 (48 + (Int.tmod x 10))) % 256]
def cringlelaw06_DateZones.f (k : Nat) (n z0 z1 : Int) (west : Bool) : Option Bool := (date_Format.f k n).bind fun s => if s.2 = 0 then (if (s.1.size : Int) = 20 then cringlelaw06_DateZones.body k n (if west = true then wrap64 (-(wrap64 (wrap64 (Int.tmod (wrap64 z0) 15 * 3600) + wrap64 (Int.tmod (wrap64 z1) 60 * 60)))) else wrap64 (wrap64 (Int.tmod (wrap64 z0) 15 * 3600) + wrap64 (Int.tmod (wrap64 z1) 60 * 60))) (s.1.extract 0 19) (if west = true then ⟨#[45]⟩ else ⟨#[43]⟩) [cringlelaw06_DateZones.two (Int.tmod (wrap64 z0) 15) ++ cringlelaw06_DateZones.two (Int.tmod (wrap64 z1) 60), cringlelaw06_DateZones.two (Int.tmod (wrap64 z0) 15) ++ ⟨#[58]⟩ ++ cringlelaw06_DateZones.two (Int.tmod (wrap64 z1) 60)] else cringlelaw06_alive.f k) else cringlelaw06_alive.f k
theorem cringlelaw06_DateZones.size (x : Int) : (cringlelaw06_DateZones.two x).size = 2 := by unfold cringlelaw06_DateZones.two; rw [strOfNums_size]; rfl
set_option maxHeartbeats 8000000 in
set_option maxRecDepth 100000 in
theorem cringlelaw06_DateZones.calls (k : Nat) (n z0 z1 : Int) (west : Bool) (r : Bool) (w : World) (hz0 : 0 ≤ z0 ∧ z0 < 256) (hz1 : 0 ≤ z1 ∧ z1 < 256) (h : cringlelaw06_DateZones.f k n z0 z1 west = some r) (htrue : Aside0 (r = true)) :
    Calls Tryd.prog 7 #[.int .i64 n, .agg #[.int .u8 z0, .int .u8 z1], .bool west] w fun e w' => e = .returned (.bool r) ∧ Below w.heap.size w w' := by
  obtain rfl := htrue.out
  clear htrue
  unfold cringlelaw06_DateZones.f at h
  obtain ⟨⟨s, e1⟩, hf, h⟩ := Option.bind_eq_some_iff.mp h
  simp only [] at h
  have HF := Aside0.mk hf
  have HZ0 := Aside0.mk hz0
  have HZ1 := Aside0.mk hz1
  clear hf hz0 hz1
  have HB1 := Aside0.mk (below_alloc (Below.refl _ w) (.cells #[.int .u8 z0, .int .u8 z1] 43))
  have HA1 := Aside0.mk (Blk.At.new w #[.int .u8 z0, .int .u8 z1] 43)
  go_enter Tryd.func7, Tryd.ntmps7
  go_wp2_with fail
  generalize w.alloc (.cells #[.int .u8 z0, .int .u8 z1] 43) = w1 at HA1 HB1 ⊢
  have x0 : w1.cell? ⟨w.heap.size, 0, none⟩ = some (.int .u8 z0) := HA1.out.cell 0
  have x1 : w1.cell? ⟨w.heap.size, 1, none⟩ = some (.int .u8 z1) := HA1.out.cell 1
  refine start_ (n := 6) (S := fun w' => w'.cell? ⟨w.heap.size, 0, none⟩ = some (.int .u8 z0) ∧ w'.cell? ⟨w.heap.size, 1, none⟩ = some (.int .u8 z1)) (ds := []) #[false, false, false, false, false, false] (by kernel_rfl) rfl rfl ⟨x0, x1⟩ (fun hHeld => ?_)
  refine pure_ (i := 0) (N := some 22) (v := ?_) (a' := ?_) #[true, false, false, false, false, false] rfl rfl (by kernel_rfl) (fun _ _ _ h => h) (Or.inl ⟨by rfl, ?_⟩) ?_ ?_
  rotate_left
  · intro w'
    go_simp
    with_reducible rfl
  rotate_left
  · simp only [Act.put, List.setIfInBounds_toArray, List.set_cons_zero, List.set_cons_succ, i64_w, i32_w]
    rfl
  refine pure_ (i := 2) (N := some 24) (v := ?_) (a' := ?_) #[true, false, true, false, false, false] rfl rfl (by kernel_rfl) (fun _ _ _ h => h) (Or.inl ⟨by rfl, ?_⟩) ?_ ?_
  rotate_left
  · intro w'
    go_simp
    with_reducible rfl
  rotate_left
  · simp only [Act.put, List.setIfInBounds_toArray, List.set_cons_zero, List.set_cons_succ, i64_w, i32_w]
    rfl
  refine take_ (i := 1) (N := some 23) (v := ?_) (a' := ?_) #[true, true, true, false, false, false] rfl rfl (by kernel_rfl) (fun _ _ _ h => h) (Or.inl ⟨by rfl, ?_⟩) hHeld ?_ ?_
  rotate_left
  · rintro w' ⟨s0, s1⟩
    go_simp
    with_reducible rfl
  rotate_left
  · simp only [Act.put, List.setIfInBounds_toArray, List.set_cons_zero, List.set_cons_succ, i64_w, i32_w]
    rfl
  refine pure_ (i := 4) (N := some 7) (v := ?_) (a' := ?_) #[true, true, true, false, true, false] rfl rfl (by kernel_rfl) (fun _ _ _ h => h) (Or.inl ⟨by rfl, ?_⟩) ?_ ?_
  rotate_left
  · intro w'
    go_simp
    with_reducible rfl
  rotate_left
  · simp only [Act.put, List.setIfInBounds_toArray, List.set_cons_zero, List.set_cons_succ, i64_w, i32_w]
    rfl
  refine take_ (i := 3) (N := some 25) (v := ?_) (a' := ?_) #[true, true, true, true, true, false] rfl rfl (by kernel_rfl) (fun _ _ _ h => h) (Or.inl ⟨by rfl, ?_⟩) hHeld ?_ ?_
  rotate_left
  · rintro w' ⟨s0, s1⟩
    go_simp
    with_reducible rfl
  rotate_left
  · simp only [Act.put, List.setIfInBounds_toArray, List.set_cons_zero, List.set_cons_succ, i64_w, i32_w]
    rfl
  refine pure_ (i := 5) (N := some 8) (v := ?_) (a' := ?_) #[true, true, true, true, true, true] rfl rfl (by kernel_rfl) (fun _ _ _ h => h) (Or.inl ⟨by rfl, ?_⟩) ?_ ?_
  rotate_left
  · intro w'
    go_simp
    with_reducible rfl
  rotate_left
  · simp only [Act.put, List.setIfInBounds_toArray, List.set_cons_zero, List.set_cons_succ, i64_w, i32_w]
    rfl
  refine done_ (by kernel_rfl) ?_
  have HB2 := Aside0.mk HB1.out.drew
  clear x0 x1 HA1 HB1
  go_wp2_with fail
  refine (date_Format.calls k n s e1 _ HF.out).mono ?_
  rintro e w2 ⟨rfl, hw⟩
  have HB3 := Aside0.mk (HB2.out.trans (hw.mono HB2.out.size))
  clear hw HB2
  have alive : ∀ (W : World), Below w.heap.size w W → cringlelaw06_alive.f k = some true → Calls Tryd.prog 12 #[] W fun e w' => e = .returned (.bool true) ∧ Below w.heap.size w w' := fun W hW ha => (cringlelaw06_alive.calls k true W ha).mono fun e w' q => ⟨q.1, hW.trans (q.2.mono hW.size)⟩
  by_cases c1 : e1 = 0
  case neg =>
    rw [if_neg c1] at h
    have c1b : (e1 != 0) = true := by simpa using c1
    have HL := Aside0.mk h
    clear h
    go_wp2_with fail
    refine (alive _ HB3.out HL.out).mono ?_
    rintro e w3 ⟨rfl, hw⟩
    have HB4 := Aside0.mk hw
    clear hw alive
    go_wp2_with fail
    go_ret
    exact ⟨rfl, HB4.out⟩
  rw [if_pos c1] at h
  subst c1
  by_cases c2 : (s.size : Int) = 20
  case neg =>
    rw [if_neg c2] at h
    have c2b : ((s.size : Int) != 20) = true := by simpa using c2
    have HL := Aside0.mk h
    clear h
    go_wp2_with fail
    refine (alive _ HB3.out HL.out).mono ?_
    rintro e w3 ⟨rfl, hw⟩
    have HB4 := Aside0.mk hw
    clear hw alive
    go_wp2_with fail
    go_ret
    exact ⟨rfl, HB4.out⟩
  rw [if_pos c2] at h
  have c2b : ((s.size : Int) != 20) = false := by simp [c2]
  have H := Aside0.mk h
  clear h
  cases west
  · skip
    have H1 := H.out
    simp only [Bool.false_eq_true, if_false] at H1
    have H' := Aside0.mk H1
    clear H H1
    go_wp2_with fail
    generalize Int.tmod (wrap64 z0) 15 = hh at H' ⊢
    generalize Int.tmod (wrap64 z1) 60 = mm at H' ⊢
    have sh := cringlelaw06_DateZones.size hh
    have sm := cringlelaw06_DateZones.size mm
    refine (cringlelaw06_DateZones_1.calls hh (cringlelaw06_DateZones.two hh) _ rfl).mono ?_
    rintro e w3 ⟨rfl, hw⟩
    have HB4 := Aside0.mk (HB3.out.trans (hw.mono HB3.out.size))
    clear hw HB3
    go_wp2_with fail
    refine (cringlelaw06_DateZones_1.calls mm (cringlelaw06_DateZones.two mm) _ rfl).mono ?_
    rintro e w4 ⟨rfl, hw⟩
    have HB5 := Aside0.mk (HB4.out.trans (hw.mono HB4.out.size))
    clear hw HB4
    go_wp2_with fail
    refine (cringlelaw06_DateZones_1.calls hh (cringlelaw06_DateZones.two hh) _ rfl).mono ?_
    rintro e w5 ⟨rfl, hw⟩
    have HB6 := Aside0.mk (HB5.out.trans (hw.mono HB5.out.size))
    clear hw HB5
    go_wp2_with fail
    refine (cringlelaw06_DateZones_1.calls mm (cringlelaw06_DateZones.two mm) _ rfl).mono ?_
    rintro e w6 ⟨rfl, hw⟩
    have HB7 := Aside0.mk (HB6.out.trans (hw.mono HB6.out.size))
    clear hw HB6
    go_wp2_with fail
    have HA := Aside0.mk (Blk.At.new w6 #[.string (cringlelaw06_DateZones.two hh ++ cringlelaw06_DateZones.two mm), .string (cringlelaw06_DateZones.two hh ++ ⟨#[58]⟩ ++ cringlelaw06_DateZones.two mm)] 9)
    have HB8 := Aside0.mk (HB7.out.alloc HB7.out.size (.cells #[.string (cringlelaw06_DateZones.two hh ++ cringlelaw06_DateZones.two mm), .string (cringlelaw06_DateZones.two hh ++ ⟨#[58]⟩ ++ cringlelaw06_DateZones.two mm)] 9))
    generalize w6.alloc (.cells #[.string (cringlelaw06_DateZones.two hh ++ cringlelaw06_DateZones.two mm), .string (cringlelaw06_DateZones.two hh ++ ⟨#[58]⟩ ++ cringlelaw06_DateZones.two mm)] 9) = w7 at HA HB8 ⊢
    generalize w6.heap.size = g at HA ⊢
    have sA : (cringlelaw06_DateZones.two hh ++ cringlelaw06_DateZones.two mm).size = 4 := by rw [ByteArray.size_append, sh, sm]
    have sB : (cringlelaw06_DateZones.two hh ++ ⟨#[58]⟩ ++ cringlelaw06_DateZones.two mm).size = 5 := by rw [ByteArray.size_append, ByteArray.size_append, sh, sm]; rfl
    generalize (cringlelaw06_DateZones.two hh ++ cringlelaw06_DateZones.two mm) = A at sA HA H' ⊢
    generalize (cringlelaw06_DateZones.two hh ++ ⟨#[58]⟩ ++ cringlelaw06_DateZones.two mm) = B at sB HA H' ⊢
    generalize wrap64 (wrap64 (hh * 3600) + wrap64 (mm * 60)) = ah at H' ⊢
    have c2n : s.size = 20 := by omega
    have sX : (s.extract 0 19).size = 19 := by rw [ByteArray.size_extract]; omega
    clear HB7 sh sm c2b c2
    go_loopw [71] (fun j wr => ∃ i : Nat, i ≤ 2 ∧ j = .int .i64 i ∧ Aside0 (Blk.At g #[.string A, .string B] 9 wr) ∧ Aside0 (Below w.heap.size w wr) ∧ Aside0 (cringlelaw06_DateZones.body k n ah (s.extract 0 19) ⟨#[43]⟩ ([A, B].drop i) = some true)) (fun j _ => 2 - (intOf j).toNat)
    case atStart => exact ⟨0, by omega, rfl, HA, HB8, H'⟩
    case round =>
      clear HA HB8 H'
      obtain ⟨i, hi, rfl, HA, HB, H⟩ := hrel
      rcases (by omega : i = 2 ∨ i = 0 ∨ i = 1) with rfl | rfl | rfl
      · have HL := Aside0.mk (show cringlelaw06_alive.f k = some true from H.out)
        go_wp2_with fail
        refine (alive _ HB.out HL.out).mono ?_
        rintro e w9 ⟨rfl, hw⟩
        have HB9 := Aside0.mk hw
        clear hw alive
        go_wp2_with fail
        go_ret
        exact ⟨rfl, HB9.out⟩
      · have h := H.out
        change cringlelaw06_DateZones.body k n ah (s.extract 0 19) ⟨#[43]⟩ [A, B] = some true at h
        rw [cringlelaw06_DateZones.body] at h
        obtain ⟨⟨p1, p2, p3, p4⟩, hp, h⟩ := Option.bind_eq_some_iff.mp h
        obtain ⟨⟨q1, q2⟩, hq, h⟩ := Option.bind_eq_some_iff.mp h
        simp only [] at h
        by_cases g1 : p4 = 0
        case neg => rw [if_neg g1] at h; cases h
        by_cases g2 : q2 = 0
        case neg => rw [if_pos g1, if_neg g2] at h; cases h
        by_cases g3 : p1 = wrap64 (n - ah)
        case neg => rw [if_pos g1, if_pos g2, if_neg g3] at h; cases h
        by_cases g4 : q1 = ah
        case neg => rw [if_pos g1, if_pos g2, if_pos g3, if_neg g4] at h; cases h
        rw [if_pos g1, if_pos g2, if_pos g3, if_pos g4] at h
        have HP := Aside0.mk hp
        have HQ := Aside0.mk hq
        have HN := Aside0.mk h
        clear hp hq h H
        subst g1 g2 g3 g4
        have x0 : wr.cell? ⟨g, 0, none⟩ = some (.string A) := HA.out.cell 0
        go_wp2_with fail
        refine (date_Parse.calls k _ _ _ _ _ _ HP.out).mono ?_
        rintro e w9 ⟨rfl, hw⟩
        have HA9 := Aside0.mk ((HA.out.below hw HA.out.lt).alloc (.cells #[.int .i64 (wrap64 (n - q1)), .bool p2, .bool p3] 40))
        have HX9 := Aside0.mk (Blk.At.new w9 #[.int .i64 (wrap64 (n - q1)), .bool p2, .bool p3] 40)
        have HB9 := Aside0.mk (Below.alloc (HB.out.trans (hw.mono HB.out.size)) (HB.out.trans (hw.mono HB.out.size)).size (.cells #[.int .i64 (wrap64 (n - q1)), .bool p2, .bool p3] 40))
        clear hw x0 HA HB
        go_wp2_with fail
        refine (date_Zone.calls k _ _ _ _ HQ.out).mono ?_
        rintro e w10 ⟨rfl, hw⟩
        have HX10 := Aside0.mk (HX9.out.below hw HX9.out.lt)
        have HA10 := Aside0.mk (HA9.out.below hw HA9.out.lt)
        have HB10 := Aside0.mk (HB9.out.trans (hw.mono HB9.out.size))
        clear hw HA9 HB9 HX9
        have y0 : w10.cell? ⟨w9.heap.size, 0, none⟩ = some (.int .i64 (wrap64 (n - q1))) := HX10.out.cell 0
        go_wp2_with fail
        go_round
        case rel => exact ⟨1, by omega, rfl, HA10, HB10, HN⟩
        case measure => simp [intOf]
      · have h := H.out
        change cringlelaw06_DateZones.body k n ah (s.extract 0 19) ⟨#[43]⟩ [B] = some true at h
        rw [cringlelaw06_DateZones.body] at h
        obtain ⟨⟨p1, p2, p3, p4⟩, hp, h⟩ := Option.bind_eq_some_iff.mp h
        obtain ⟨⟨q1, q2⟩, hq, h⟩ := Option.bind_eq_some_iff.mp h
        simp only [] at h
        by_cases g1 : p4 = 0
        case neg => rw [if_neg g1] at h; cases h
        by_cases g2 : q2 = 0
        case neg => rw [if_pos g1, if_neg g2] at h; cases h
        by_cases g3 : p1 = wrap64 (n - ah)
        case neg => rw [if_pos g1, if_pos g2, if_neg g3] at h; cases h
        by_cases g4 : q1 = ah
        case neg => rw [if_pos g1, if_pos g2, if_pos g3, if_neg g4] at h; cases h
        rw [if_pos g1, if_pos g2, if_pos g3, if_pos g4] at h
        have HP := Aside0.mk hp
        have HQ := Aside0.mk hq
        have HN := Aside0.mk h
        clear hp hq h H
        subst g1 g2 g3 g4
        have x0 : wr.cell? ⟨g, 1, none⟩ = some (.string B) := HA.out.cell 1
        go_wp2_with fail
        refine (date_Parse.calls k _ _ _ _ _ _ HP.out).mono ?_
        rintro e w9 ⟨rfl, hw⟩
        have HA9 := Aside0.mk ((HA.out.below hw HA.out.lt).alloc (.cells #[.int .i64 (wrap64 (n - q1)), .bool p2, .bool p3] 40))
        have HX9 := Aside0.mk (Blk.At.new w9 #[.int .i64 (wrap64 (n - q1)), .bool p2, .bool p3] 40)
        have HB9 := Aside0.mk (Below.alloc (HB.out.trans (hw.mono HB.out.size)) (HB.out.trans (hw.mono HB.out.size)).size (.cells #[.int .i64 (wrap64 (n - q1)), .bool p2, .bool p3] 40))
        clear hw x0 HA HB
        go_wp2_with fail
        refine (date_Zone.calls k _ _ _ _ HQ.out).mono ?_
        rintro e w10 ⟨rfl, hw⟩
        have HX10 := Aside0.mk (HX9.out.below hw HX9.out.lt)
        have HA10 := Aside0.mk (HA9.out.below hw HA9.out.lt)
        have HB10 := Aside0.mk (HB9.out.trans (hw.mono HB9.out.size))
        clear hw HA9 HB9 HX9
        have y0 : w10.cell? ⟨w9.heap.size, 0, none⟩ = some (.int .i64 (wrap64 (n - q1))) := HX10.out.cell 0
        go_wp2_with fail
        go_round
        case rel => exact ⟨2, by omega, rfl, HA10, HB10, HN⟩
        case measure => simp [intOf]

  · skip
    have H1 := H.out
    simp only [if_true] at H1
    have H' := Aside0.mk H1
    clear H H1
    go_wp2_with fail
    generalize Int.tmod (wrap64 z0) 15 = hh at H' ⊢
    generalize Int.tmod (wrap64 z1) 60 = mm at H' ⊢
    have sh := cringlelaw06_DateZones.size hh
    have sm := cringlelaw06_DateZones.size mm
    refine (cringlelaw06_DateZones_1.calls hh (cringlelaw06_DateZones.two hh) _ rfl).mono ?_
    rintro e w3 ⟨rfl, hw⟩
    have HB4 := Aside0.mk (HB3.out.trans (hw.mono HB3.out.size))
    clear hw HB3
    go_wp2_with fail
    refine (cringlelaw06_DateZones_1.calls mm (cringlelaw06_DateZones.two mm) _ rfl).mono ?_
    rintro e w4 ⟨rfl, hw⟩
    have HB5 := Aside0.mk (HB4.out.trans (hw.mono HB4.out.size))
    clear hw HB4
    go_wp2_with fail
    refine (cringlelaw06_DateZones_1.calls hh (cringlelaw06_DateZones.two hh) _ rfl).mono ?_
    rintro e w5 ⟨rfl, hw⟩
    have HB6 := Aside0.mk (HB5.out.trans (hw.mono HB5.out.size))
    clear hw HB5
    go_wp2_with fail
    refine (cringlelaw06_DateZones_1.calls mm (cringlelaw06_DateZones.two mm) _ rfl).mono ?_
    rintro e w6 ⟨rfl, hw⟩
    have HB7 := Aside0.mk (HB6.out.trans (hw.mono HB6.out.size))
    clear hw HB6
    go_wp2_with fail
    have HA := Aside0.mk (Blk.At.new w6 #[.string (cringlelaw06_DateZones.two hh ++ cringlelaw06_DateZones.two mm), .string (cringlelaw06_DateZones.two hh ++ ⟨#[58]⟩ ++ cringlelaw06_DateZones.two mm)] 9)
    have HB8 := Aside0.mk (HB7.out.alloc HB7.out.size (.cells #[.string (cringlelaw06_DateZones.two hh ++ cringlelaw06_DateZones.two mm), .string (cringlelaw06_DateZones.two hh ++ ⟨#[58]⟩ ++ cringlelaw06_DateZones.two mm)] 9))
    generalize w6.alloc (.cells #[.string (cringlelaw06_DateZones.two hh ++ cringlelaw06_DateZones.two mm), .string (cringlelaw06_DateZones.two hh ++ ⟨#[58]⟩ ++ cringlelaw06_DateZones.two mm)] 9) = w7 at HA HB8 ⊢
    generalize w6.heap.size = g at HA ⊢
    have sA : (cringlelaw06_DateZones.two hh ++ cringlelaw06_DateZones.two mm).size = 4 := by rw [ByteArray.size_append, sh, sm]
    have sB : (cringlelaw06_DateZones.two hh ++ ⟨#[58]⟩ ++ cringlelaw06_DateZones.two mm).size = 5 := by rw [ByteArray.size_append, ByteArray.size_append, sh, sm]; rfl
    generalize (cringlelaw06_DateZones.two hh ++ cringlelaw06_DateZones.two mm) = A at sA HA H' ⊢
    generalize (cringlelaw06_DateZones.two hh ++ ⟨#[58]⟩ ++ cringlelaw06_DateZones.two mm) = B at sB HA H' ⊢
    generalize wrap64 (-(wrap64 (wrap64 (hh * 3600) + wrap64 (mm * 60)))) = ah at H' ⊢
    have c2n : s.size = 20 := by omega
    have sX : (s.extract 0 19).size = 19 := by rw [ByteArray.size_extract]; omega
    clear HB7 sh sm c2b c2
    go_loopw [71] (fun j wr => ∃ i : Nat, i ≤ 2 ∧ j = .int .i64 i ∧ Aside0 (Blk.At g #[.string A, .string B] 9 wr) ∧ Aside0 (Below w.heap.size w wr) ∧ Aside0 (cringlelaw06_DateZones.body k n ah (s.extract 0 19) ⟨#[45]⟩ ([A, B].drop i) = some true)) (fun j _ => 2 - (intOf j).toNat)
    case atStart => exact ⟨0, by omega, rfl, HA, HB8, H'⟩
    case round =>
      clear HA HB8 H'
      obtain ⟨i, hi, rfl, HA, HB, H⟩ := hrel
      rcases (by omega : i = 2 ∨ i = 0 ∨ i = 1) with rfl | rfl | rfl
      · have HL := Aside0.mk (show cringlelaw06_alive.f k = some true from H.out)
        go_wp2_with fail
        refine (alive _ HB.out HL.out).mono ?_
        rintro e w9 ⟨rfl, hw⟩
        have HB9 := Aside0.mk hw
        clear hw alive
        go_wp2_with fail
        go_ret
        exact ⟨rfl, HB9.out⟩
      · have h := H.out
        change cringlelaw06_DateZones.body k n ah (s.extract 0 19) ⟨#[45]⟩ [A, B] = some true at h
        rw [cringlelaw06_DateZones.body] at h
        obtain ⟨⟨p1, p2, p3, p4⟩, hp, h⟩ := Option.bind_eq_some_iff.mp h
        obtain ⟨⟨q1, q2⟩, hq, h⟩ := Option.bind_eq_some_iff.mp h
        simp only [] at h
        by_cases g1 : p4 = 0
        case neg => rw [if_neg g1] at h; cases h
        by_cases g2 : q2 = 0
        case neg => rw [if_pos g1, if_neg g2] at h; cases h
        by_cases g3 : p1 = wrap64 (n - ah)
        case neg => rw [if_pos g1, if_pos g2, if_neg g3] at h; cases h
        by_cases g4 : q1 = ah
        case neg => rw [if_pos g1, if_pos g2, if_pos g3, if_neg g4] at h; cases h
        rw [if_pos g1, if_pos g2, if_pos g3, if_pos g4] at h
        have HP := Aside0.mk hp
        have HQ := Aside0.mk hq
        have HN := Aside0.mk h
        clear hp hq h H
        subst g1 g2 g3 g4
        have x0 : wr.cell? ⟨g, 0, none⟩ = some (.string A) := HA.out.cell 0
        go_wp2_with fail
        refine (date_Parse.calls k _ _ _ _ _ _ HP.out).mono ?_
        rintro e w9 ⟨rfl, hw⟩
        have HA9 := Aside0.mk ((HA.out.below hw HA.out.lt).alloc (.cells #[.int .i64 (wrap64 (n - q1)), .bool p2, .bool p3] 40))
        have HX9 := Aside0.mk (Blk.At.new w9 #[.int .i64 (wrap64 (n - q1)), .bool p2, .bool p3] 40)
        have HB9 := Aside0.mk (Below.alloc (HB.out.trans (hw.mono HB.out.size)) (HB.out.trans (hw.mono HB.out.size)).size (.cells #[.int .i64 (wrap64 (n - q1)), .bool p2, .bool p3] 40))
        clear hw x0 HA HB
        go_wp2_with fail
        refine (date_Zone.calls k _ _ _ _ HQ.out).mono ?_
        rintro e w10 ⟨rfl, hw⟩
        have HX10 := Aside0.mk (HX9.out.below hw HX9.out.lt)
        have HA10 := Aside0.mk (HA9.out.below hw HA9.out.lt)
        have HB10 := Aside0.mk (HB9.out.trans (hw.mono HB9.out.size))
        clear hw HA9 HB9 HX9
        have y0 : w10.cell? ⟨w9.heap.size, 0, none⟩ = some (.int .i64 (wrap64 (n - q1))) := HX10.out.cell 0
        go_wp2_with fail
        go_round
        case rel => exact ⟨1, by omega, rfl, HA10, HB10, HN⟩
        case measure => simp [intOf]
      · have h := H.out
        change cringlelaw06_DateZones.body k n ah (s.extract 0 19) ⟨#[45]⟩ [B] = some true at h
        rw [cringlelaw06_DateZones.body] at h
        obtain ⟨⟨p1, p2, p3, p4⟩, hp, h⟩ := Option.bind_eq_some_iff.mp h
        obtain ⟨⟨q1, q2⟩, hq, h⟩ := Option.bind_eq_some_iff.mp h
        simp only [] at h
        by_cases g1 : p4 = 0
        case neg => rw [if_neg g1] at h; cases h
        by_cases g2 : q2 = 0
        case neg => rw [if_pos g1, if_neg g2] at h; cases h
        by_cases g3 : p1 = wrap64 (n - ah)
        case neg => rw [if_pos g1, if_pos g2, if_neg g3] at h; cases h
        by_cases g4 : q1 = ah
        case neg => rw [if_pos g1, if_pos g2, if_pos g3, if_neg g4] at h; cases h
        rw [if_pos g1, if_pos g2, if_pos g3, if_pos g4] at h
        have HP := Aside0.mk hp
        have HQ := Aside0.mk hq
        have HN := Aside0.mk h
        clear hp hq h H
        subst g1 g2 g3 g4
        have x0 : wr.cell? ⟨g, 1, none⟩ = some (.string B) := HA.out.cell 1
        go_wp2_with fail
        refine (date_Parse.calls k _ _ _ _ _ _ HP.out).mono ?_
        rintro e w9 ⟨rfl, hw⟩
        have HA9 := Aside0.mk ((HA.out.below hw HA.out.lt).alloc (.cells #[.int .i64 (wrap64 (n - q1)), .bool p2, .bool p3] 40))
        have HX9 := Aside0.mk (Blk.At.new w9 #[.int .i64 (wrap64 (n - q1)), .bool p2, .bool p3] 40)
        have HB9 := Aside0.mk (Below.alloc (HB.out.trans (hw.mono HB.out.size)) (HB.out.trans (hw.mono HB.out.size)).size (.cells #[.int .i64 (wrap64 (n - q1)), .bool p2, .bool p3] 40))
        clear hw x0 HA HB
        go_wp2_with fail
        refine (date_Zone.calls k _ _ _ _ HQ.out).mono ?_
        rintro e w10 ⟨rfl, hw⟩
        have HX10 := Aside0.mk (HX9.out.below hw HX9.out.lt)
        have HA10 := Aside0.mk (HA9.out.below hw HA9.out.lt)
        have HB10 := Aside0.mk (HB9.out.trans (hw.mono HB9.out.size))
        clear hw HA9 HB9 HX9
        have y0 : w10.cell? ⟨w9.heap.size, 0, none⟩ = some (.int .i64 (wrap64 (n - q1))) := HX10.out.cell 0
        go_wp2_with fail
        go_round
        case rel => exact ⟨2, by omega, rfl, HA10, HB10, HN⟩
        case measure => simp [intOf]

end Go.Proofs.YtfoikdjffemhbaaDoor.Q

