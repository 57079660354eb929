/- A disk's functions, walked for a journal's program: the small ones. No condition but those typed. -/
import Derived.Test.YtdlfabbhdelinaaShort
import Derived.Test.YtdlfabbhdelinaaWalk0
import Derived.Test.YtdlfabbhdelinaaDisk09
import Derived.Outline
namespace Go.Proofs.Ytdlfabbhdelinaa.Q
open Go.RowKit Go.Proofs.YtdlfabbhdelinaaW.PrintWords Go.Proofs.YtdlfabbhdelinaaW.PrintLast Go.Proofs.YtdlfabbhdelinaaW.PrintMore
open Go.Proofs.Ytdlfabbhdelinaa.Dk Go.Proofs.Ytdlfabbhdelinaa.Sh
attribute [local go_sem] max2_int min2_int max_two min_two max_three min_three max_four min_four   -- for this text's walks alone
set_option linter.unusedVariables false
set_option linter.unusedSimpArgs false
set_option maxRecDepth 100000
theorem info5 : (Try.prog.info? 5).map (fun i => (i.zero, i.size, i.bytes)) = some (some (.int .u8 0), 1, 1) := by kernel_rfl
theorem eql23_nil (W : World) (a : Option Addr) (l c : Nat) : (binOp .eql 22 (.slice a l c) (.slice none 0 0)).run Try.prog W = .ok (.bool a.isNone) W := by
  simp only [binOp]
  simp [run_equal_slice_nil W 22 5 a l c Try.underlying22]
attribute [local go_sem] eql23_nil
theorem bytes_Clone.calls {ok : Nat → Prop} {v : Value} {xs : List Int} {w : World} (h : Vb ok w v xs) (hn : xs.length ≤ 140737488355328) :
    Calls Try.prog 42 #[v] w fun e w' => ∃ v', e = .returned v' ∧ Rb w.heap.size w' v' xs ∧ Below w.heap.size w w' := by
  obtain ⟨A, c, rfl⟩ := Kd.V_slice h
  obtain ⟨_, hc, hC⟩ := Kd.V_reads' h
  have HC := Aside0.mk hC
  clear hC h
  cases A with
  | none =>
    have hz : xs.length = 0 := by
      rcases Nat.eq_zero_or_pos xs.length with h0 | h0
      · exact h0
      · obtain ⟨ad, he, _⟩ := HC.out.2.2 h0
        cases he
    obtain rfl : xs = [] := List.eq_nil_of_length_eq_zero hz
    clear hz
    go_enter Try.func42, Try.ntmps42
    go_wp2_with fail
    go_ret
    exact ⟨_, rfl, Kd.R_nil _ _ _ _ _, Below.refl _ _⟩
  | some ad =>
    have HN := Aside0.mk hn
    clear hn
    have HO := Aside0.mk (show Rb w.heap.size (w.alloc (.cells #[] 5)) (.slice (some ⟨w.heap.size, 0, none⟩) 0 0) [] from Kd.R_of_own (own_lit w w.heap.size 5 .u8 [] (Nat.le_refl _) (by decide)) (fun _ _ => trivial))
    go_enter Try.func42, Try.ntmps42
    go_wp2_with (at_builtin; refine Kd.R_append_row (Value.int .u8) 0 (w0 := w) w.heap.size rfl _ _ 22 5 (.int .u8 0) 1 rfl Try.underlying22 info5 rfl (by decide) (.slice (some ⟨w.heap.size, 0, none⟩) 0 0) [] xs (some ad) xs.length c (fun _ => True) rfl rfl (fun _ _ => trivial) HO.out (Kd.C_alloc HC.out _) (below_alloc (Below.refl _ _) _) (by rw [size_alloc]; omega) (by have := HN.out; simpa using this) ?_; intro v1 w1 ho hb hg hat)
    rw [List.nil_append] at ho
    go_wp2_with fail
    go_ret
    exact ⟨_, rfl, ho, hb⟩
theorem disk_ok.calls {g : Nat} {ok : Nat → Prop} {d : D} {w : World} (h : At g ok d w) :
    Calls Try.prog 48 #[.pointer (some ⟨g, 0, none⟩)] w fun e w' => e = .returned (.bool (decide (0 < d.room))) ∧ w' = w := by
  obtain ⟨v0, v1, v2, v3, HA, _⟩ := h.ex
  have x7 : w.cell? ⟨g, 7, none⟩ = some (.int .i64 d.room) := HA.cell 7
  clear HA h
  go_enter Try.func48, Try.ntmps48
  go_wp2_with fail
  go_ret
  exact ⟨rfl, rfl⟩
theorem disk_ok.nil {w : World} :
    Calls Try.prog 48 #[.pointer none] w fun e w' => e = .returned (.bool false) ∧ w' = w := by
  go_enter Try.func48, Try.ntmps48
  go_wp2_with fail
  go_ret
  exact ⟨rfl, rfl⟩
theorem disk_ok.true {g : Nat} {ok : Nat → Prop} {d : D} {w : World} (h : At g ok d w) (hr : 0 < d.room) :
    Calls Try.prog 48 #[.pointer (some ⟨g, 0, none⟩)] w fun e w' => e = .returned (.bool true) ∧ w' = w := by
  have := disk_ok.calls h
  rwa [decide_eq_true hr] at this
/-- What nobody made. -/
def Dead (v : Value) (w : World) : Prop := v = .pointer none ∨ ∃ g ok d, v = .pointer (some ⟨g, 0, none⟩) ∧ At g ok d w ∧ d.room ≤ 0
theorem Dead.below {v : Value} {w w' : World} (h : Dead v w) (hb : Below w.heap.size w w') : Dead v w' := by
  rcases h with h | ⟨g, ok, d, hv, hA, hr⟩
  · exact .inl h
  · exact .inr ⟨g, ok, d, hv, hA.below hb, hr⟩
theorem disk_ok.dead {v : Value} {w : World} (h : Dead v w) :
    Calls Try.prog 48 #[v] w fun e w' => e = .returned (.bool false) ∧ w' = w := by
  rcases h with rfl | ⟨g, ok, d, rfl, hA, hr⟩
  · exact disk_ok.nil
  · have := disk_ok.calls hA
    rwa [decide_eq_false (by omega)] at this
theorem disk_Fail.calls {g : Nat} {ok : Nat → Prop} {d : D} {w : World} (h : At g ok d w) (hr : 0 < d.room) :
    Calls Try.prog 22 #[.pointer (some ⟨g, 0, none⟩)] w fun e w' => e = .returned (.tuple #[]) ∧ At g ok { d with off := true, fuse := -1 } w' ∧ Tn g w w' := by
  have H := Aside0.mk h
  clear h
  go_enter Try.func22, Try.ntmps22
  go_wp2_with fail
  refine (disk_ok.true H.out hr).mono ?_
  rintro e w1 ⟨rfl, rfl⟩
  obtain ⟨v0, v1, v2, v3, HA, V0, V1, V2, V3⟩ := H.out.ex
  have z8 : w1.frozen? ⟨g, 8, none⟩ = false := HA.frozen 8
  have z9 : w1.frozen? ⟨g, 9, none⟩ = false := HA.frozen 9
  have x8 : w1.cell? ⟨g, 8, none⟩ = some (.bool d.off) := HA.cell 8
  have x9 : w1.cell? ⟨g, 9, none⟩ = some (.int .i64 d.fuse) := HA.cell 9
  have HA_ := Aside0.mk HA
  have HV := Aside0.mk (And.intro V0 (And.intro V1 (And.intro V2 V3)))
  clear HA V0 V1 V2 V3
  go_wp2_with fail
  have T := ((Tn.refl g w1).set_own 8 (.bool true)).set_own 9 (.int .i64 (-1))
  obtain ⟨V0, V1, V2, V3⟩ := HV.out
  have hn := H.out.nok
  exact Go.Great.bodyPost_end0 rfl rfl ⟨rfl, H.out.turn T ((HA_.out.set 8 _).set 9 _) (V_tn V0 hn T) (V_tn V1 hn T) (V_tn V2 hn T) (V_tn V3 hn T), T⟩
theorem disk_Fail.dead {v : Value} {w : World} (h : Dead v w) :
    Calls Try.prog 22 #[v] w fun e w' => e = .returned (.tuple #[]) ∧ w' = w := by
  have H := Aside0.mk h
  clear h
  go_enter Try.func22, Try.ntmps22
  go_wp2_with fail
  refine (disk_ok.dead H.out).mono ?_
  rintro e w1 ⟨rfl, rfl⟩
  go_wp2_with fail
  exact Go.Great.bodyPost_end0 rfl rfl ⟨rfl, rfl⟩
/-- Which file a number names. -/
def fo (g : Nat) (i : Bool) : Value := .pointer (some ⟨g, match i with | false => 0 | true => 3, none⟩)
def iv (i : Bool) : Int := match i with | false => 0 | true => 1
theorem disk_file.calls {g : Nat} {ok : Nat → Prop} {d : D} {w : World} (h : At g ok d w) (hr : 0 < d.room) (ho : d.off = false) (i : Bool) :
    Calls Try.prog 58 #[.pointer (some ⟨g, 0, none⟩), .int .i64 (iv i)] w fun e w' => e = .returned (.tuple #[fo g i, .int .i64 0]) ∧ w' = w := by
  have H := Aside0.mk h
  obtain ⟨v0, v1, v2, v3, HA, _⟩ := h.ex
  have x8 : w.cell? ⟨g, 8, none⟩ = some (.bool d.off) := HA.cell 8
  rw [ho] at x8
  clear HA h
  cases i
  · simp only [iv, fo]
    go_enter Try.func58, Try.ntmps58
    go_wp2_with fail
    refine (disk_ok.true H.out hr).mono ?_
    rintro e w1 ⟨rfl, rfl⟩
    go_wp2_with fail
    go_ret2
    exact ⟨rfl, rfl⟩
  · simp only [iv, fo]
    go_enter Try.func58, Try.ntmps58
    go_wp2_with fail
    refine (disk_ok.true H.out hr).mono ?_
    rintro e w1 ⟨rfl, rfl⟩
    go_wp2_with fail
    go_ret2
    exact ⟨rfl, rfl⟩
theorem disk_file.dead {v : Value} {w : World} (h : Dead v w) (i : Int) :
    Calls Try.prog 58 #[v, .int .i64 i] w fun e w' => e = .returned (.tuple #[.pointer none, .int .i64 2]) ∧ w' = w := by
  have H := Aside0.mk h
  clear h
  go_enter Try.func58, Try.ntmps58
  go_wp2_with fail
  refine (disk_ok.dead H.out).mono ?_
  rintro e w1 ⟨rfl, rfl⟩
  go_wp2_with fail
  go_ret2
  exact ⟨rfl, rfl⟩
theorem disk_file.arg {g : Nat} {ok : Nat → Prop} {d : D} {w : World} (h : At g ok d w) (hr : 0 < d.room) (i : Int) (hi : i ≠ 0 ∧ i ≠ 1) :
    Calls Try.prog 58 #[.pointer (some ⟨g, 0, none⟩), .int .i64 i] w fun e w' => e = .returned (.tuple #[.pointer none, .int .i64 1]) ∧ w' = w := by
  have H := Aside0.mk h
  clear h
  have i0 : (i != 0) = true := by simpa using hi.1
  have i1 : (i != 1) = true := by simpa using hi.2
  go_enter Try.func58, Try.ntmps58
  go_wp2_with fail
  refine (disk_ok.true H.out hr).mono ?_
  rintro e w1 ⟨rfl, rfl⟩
  go_wp2_with fail
  go_ret2
  exact ⟨rfl, rfl⟩
theorem disk_file.down {g : Nat} {ok : Nat → Prop} {d : D} {w : World} (h : At g ok d w) (hr : 0 < d.room) (ho : d.off = true) (i : Bool) :
    Calls Try.prog 58 #[.pointer (some ⟨g, 0, none⟩), .int .i64 (iv i)] w fun e w' => e = .returned (.tuple #[.pointer none, .int .i64 12]) ∧ w' = w := by
  have H := Aside0.mk h
  obtain ⟨v0, v1, v2, v3, HA, _⟩ := h.ex
  have x8 : w.cell? ⟨g, 8, none⟩ = some (.bool d.off) := HA.cell 8
  rw [ho] at x8
  clear HA h
  cases i
  · simp only [iv]
    go_enter Try.func58, Try.ntmps58
    go_wp2_with fail
    refine (disk_ok.true H.out hr).mono ?_
    rintro e w1 ⟨rfl, rfl⟩
    go_wp2_with fail
    go_ret2
    exact ⟨rfl, rfl⟩
  · simp only [iv]
    go_enter Try.func58, Try.ntmps58
    go_wp2_with fail
    refine (disk_ok.true H.out hr).mono ?_
    rintro e w1 ⟨rfl, rfl⟩
    go_wp2_with fail
    go_ret2
    exact ⟨rfl, rfl⟩
/-- What a disk may hold. -/
structure Room (d : D) : Prop where
  pos : 0 < d.room
  most : d.room ≤ 1048576
  la : d.a.now.length ≤ 1048576
  lb : d.b.now.length ≤ 1048576
theorem disk_Left.calls {g : Nat} {ok : Nat → Prop} {d : D} {w : World} (h : At g ok d w) (hr : Room d) :
    Calls Try.prog 50 #[.pointer (some ⟨g, 0, none⟩)] w fun e w' => e = .returned (.int .i64 (d.room - d.a.now.length - d.b.now.length)) ∧ Below w.heap.size w w' := by
  have H := Aside0.mk h
  obtain ⟨v0, v1, v2, v3, HA, V0, _, V2, _⟩ := h.ex
  obtain ⟨A0, c0, rfl⟩ := Kd.V_slice V0
  obtain ⟨A2, c2, rfl⟩ := Kd.V_slice V2
  have x7 : w.cell? ⟨g, 7, none⟩ = some (.int .i64 d.room) := HA.cell 7
  have x0 : w.cell? ⟨g, 0, none⟩ = some (.slice A0 d.a.now.length c0) := HA.cell 0
  have x3 : w.cell? ⟨g, 3, none⟩ = some (.slice A2 d.b.now.length c2) := HA.cell 3
  have hp := hr.pos
  have e1 : wrap64 (d.room - d.a.now.length) = d.room - d.a.now.length := by have := hr.pos; have := hr.most; have := hr.la; have := hr.lb; unfold wrap64; omega
  have e2 : wrap64 (d.room - d.a.now.length - d.b.now.length) = d.room - d.a.now.length - d.b.now.length := by have := hr.pos; have := hr.most; have := hr.la; have := hr.lb; unfold wrap64; omega
  clear HA V0 V2 h hr
  go_enter Try.func50, Try.ntmps50
  go_wp2_with fail
  refine (disk_ok.true H.out hp).mono ?_
  rintro e w1 ⟨rfl, rfl⟩
  go_wp2_with fail
  refine start_ (n := 21) (S := fun w' => w'.cell? ⟨g, 7, none⟩ = some (.int .i64 d.room) ∧ w'.cell? ⟨g, 0, none⟩ = some (.slice A0 d.a.now.length c0) ∧ w'.cell? ⟨g, 3, none⟩ = some (.slice A2 d.b.now.length c2)) (ds := []) (bl 21 0x0) (by kernel_rfl) rfl (by kernel_rfl) ⟨x7, x0, x3⟩ (fun hHeld => ?_)
  refine pu 0 (some 6) (bl 21 0x1) ?_
  refine pu 1 (some 7) (bl 21 0x3) ?_
  refine pu 2 (some 8) (bl 21 0x7) ?_
  refine pu 4 (some 10) (bl 21 0x17) ?_
  refine pu 5 (some 11) (bl 21 0x37) ?_
  refine pu 6 (some 12) (bl 21 0x77) ?_
  refine pu 7 (some 13) (bl 21 0xf7) ?_
  refine pu 8 (some 14) (bl 21 0x1f7) ?_
  refine pu 12 (some 18) (bl 21 0x11f7) ?_
  refine pu 13 (some 19) (bl 21 0x31f7) ?_
  refine pu 14 (some 20) (bl 21 0x71f7) ?_
  refine pu 15 (some 21) (bl 21 0xf1f7) ?_
  refine pu 16 (some 22) (bl 21 0x1f1f7) ?_
  refine tk 3 (some 9) (bl 21 0x1f1ff) hHeld ?_
  refine tk 9 (some 15) (bl 21 0x1f3ff) hHeld ?_
  refine pu 10 (some 16) (bl 21 0x1f7ff) ?_
  refine pu 11 (some 17) (bl 21 0x1ffff) ?_
  refine tk 17 (some 23) (bl 21 0x3ffff) hHeld ?_
  refine pu 18 (some 24) (bl 21 0x7ffff) ?_
  refine pu 19 (some 25) (bl 21 0xfffff) ?_
  refine pu 20 (some 2) (bl 21 0x1fffff) ?_
  refine done_ (by kernel_rfl) ?_
  rw [e1, e2]
  go_wp2_with fail
  go_ret
  exact ⟨rfl, below_drew (Below.refl _ _)⟩
theorem disk_Left.dead {v : Value} {w : World} (h : Dead v w) :
    Calls Try.prog 50 #[v] w fun e w' => e = .returned (.int .i64 0) ∧ w' = w := by
  have H := Aside0.mk h
  clear h
  go_enter Try.func50, Try.ntmps50
  go_wp2_with fail
  refine (disk_ok.dead H.out).mono ?_
  rintro e w1 ⟨rfl, rfl⟩
  go_wp2_with fail
  go_ret
  exact ⟨rfl, rfl⟩
theorem disk_Arm.calls {g : Nat} {ok : Nat → Prop} {d : D} {w : World} (h : At g ok d w) (hr : 0 < d.room) (n : Int) (b : Bool) :
    Calls Try.prog 21 #[.pointer (some ⟨g, 0, none⟩), .int .i64 n, .bool b] w fun e w' => e = .returned (.tuple #[]) ∧ At g ok { d with fuse := (if n < -1 then -1 else n), behind := b } w' ∧ Tn g w w' := by
  have H := Aside0.mk h
  clear h
  by_cases hc : n < -1
  · rw [if_pos hc]
    go_enter Try.func21, Try.ntmps21
    go_wp2_with fail
    refine (disk_ok.true H.out hr).mono ?_
    rintro e w1 ⟨rfl, rfl⟩
    obtain ⟨v0, v1, v2, v3, HA, V0, V1, V2, V3⟩ := H.out.ex
    have z9 : w1.frozen? ⟨g, 9, none⟩ = false := HA.frozen 9
    have z10 : w1.frozen? ⟨g, 10, none⟩ = false := HA.frozen 10
    have x9 : w1.cell? ⟨g, 9, none⟩ = some (.int .i64 d.fuse) := HA.cell 9
    have x10 : w1.cell? ⟨g, 10, none⟩ = some (.bool d.behind) := HA.cell 10
    have HA_ := Aside0.mk HA
    have HV := Aside0.mk (And.intro V0 (And.intro V1 (And.intro V2 V3)))
    clear HA V0 V1 V2 V3
    have T := Aside0.mk (((Tn.refl g w1).set_own 9 (.int .i64 (-1))).set_own 10 (.bool b))
    go_wp2_with fail
    obtain ⟨V0, V1, V2, V3⟩ := HV.out
    have hn := H.out.nok
    exact Go.Great.bodyPost_end0 rfl rfl ⟨rfl, H.out.turn T.out ((HA_.out.set 9 _).set 10 _) (V_tn V0 hn T.out) (V_tn V1 hn T.out) (V_tn V2 hn T.out) (V_tn V3 hn T.out), T.out⟩
  · rw [if_neg hc]
    go_enter Try.func21, Try.ntmps21
    go_wp2_with fail
    refine (disk_ok.true H.out hr).mono ?_
    rintro e w1 ⟨rfl, rfl⟩
    obtain ⟨v0, v1, v2, v3, HA, V0, V1, V2, V3⟩ := H.out.ex
    have z9 : w1.frozen? ⟨g, 9, none⟩ = false := HA.frozen 9
    have z10 : w1.frozen? ⟨g, 10, none⟩ = false := HA.frozen 10
    have x9 : w1.cell? ⟨g, 9, none⟩ = some (.int .i64 d.fuse) := HA.cell 9
    have x10 : w1.cell? ⟨g, 10, none⟩ = some (.bool d.behind) := HA.cell 10
    have HA_ := Aside0.mk HA
    have HV := Aside0.mk (And.intro V0 (And.intro V1 (And.intro V2 V3)))
    clear HA V0 V1 V2 V3
    have T := Aside0.mk (((Tn.refl g w1).set_own 9 (.int .i64 (n))).set_own 10 (.bool b))
    go_wp2_with fail
    obtain ⟨V0, V1, V2, V3⟩ := HV.out
    have hn := H.out.nok
    exact Go.Great.bodyPost_end0 rfl rfl ⟨rfl, H.out.turn T.out ((HA_.out.set 9 _).set 10 _) (V_tn V0 hn T.out) (V_tn V1 hn T.out) (V_tn V2 hn T.out) (V_tn V3 hn T.out), T.out⟩
theorem disk_Arm.dead {v : Value} {w : World} (h : Dead v w) (n : Int) (b : Bool) :
    Calls Try.prog 21 #[v, .int .i64 n, .bool b] w fun e w' => e = .returned (.tuple #[]) ∧ w' = w := by
  have H := Aside0.mk h
  clear h
  go_enter Try.func21, Try.ntmps21
  go_wp2_with fail
  refine (disk_ok.dead H.out).mono ?_
  rintro e w1 ⟨rfl, rfl⟩
  go_wp2_with fail
  exact Go.Great.bodyPost_end0 rfl rfl ⟨rfl, rfl⟩
theorem disk_On.calls {g : Nat} {ok : Nat → Prop} {d : D} {w : World} (h : At g ok d w) (hr : 0 < d.room) :
    Calls Try.prog 23 #[.pointer (some ⟨g, 0, none⟩)] w fun e w' => e = .returned (.bool (!d.off)) ∧ w' = w := by
  have H := Aside0.mk h
  clear h
  go_enter Try.func23, Try.ntmps23
  go_wp2_with fail
  refine (disk_ok.true H.out hr).mono ?_
  rintro e w1 ⟨rfl, rfl⟩
  obtain ⟨v0, v1, v2, v3, HA, _⟩ := H.out.ex
  have x8 : w1.cell? ⟨g, 8, none⟩ = some (.bool d.off) := HA.cell 8
  clear HA
  go_wp2_with fail
  go_ret
  exact ⟨rfl, rfl⟩
theorem disk_On.dead {v : Value} {w : World} (h : Dead v w) :
    Calls Try.prog 23 #[v] w fun e w' => e = .returned (.bool false) ∧ w' = w := by
  have H := Aside0.mk h
  clear h
  go_enter Try.func23, Try.ntmps23
  go_wp2_with fail
  refine (disk_ok.dead H.out).mono ?_
  rintro e w1 ⟨rfl, rfl⟩
  go_wp2_with fail
  go_ret
  exact ⟨rfl, rfl⟩
theorem disk_Root.calls {g : Nat} {ok : Nat → Prop} {d : D} {w : World} (h : At g ok d w) (hr : 0 < d.room) :
    Calls Try.prog 34 #[.pointer (some ⟨g, 0, none⟩)] w fun e w' => e = .returned (.tuple #[.int .i64 (if d.off = true then 0 else d.root), .int .i64 (if d.off = true then 12 else 0)]) ∧ w' = w := by
  have H := Aside0.mk h
  clear h
  cases ho : d.off
  · go_enter Try.func34, Try.ntmps34
    go_wp2_with fail
    refine (disk_file.calls H.out hr ho false).mono ?_
    rintro e w1 ⟨rfl, rfl⟩
    obtain ⟨v0, v1, v2, v3, HA, _⟩ := H.out.ex
    have x6 : w1.cell? ⟨g, 6, none⟩ = some (.int .i64 d.root) := HA.cell 6
    clear HA
    go_wp2_with fail
    go_ret2
    exact ⟨rfl, rfl⟩
  · go_enter Try.func34, Try.ntmps34
    go_wp2_with fail
    refine (disk_file.down H.out hr ho false).mono ?_
    rintro e w1 ⟨rfl, rfl⟩
    go_wp2_with fail
    go_ret2
    exact ⟨rfl, rfl⟩
theorem disk_Root.dead {v : Value} {w : World} (h : Dead v w) :
    Calls Try.prog 34 #[v] w fun e w' => e = .returned (.tuple #[.int .i64 0, .int .i64 2]) ∧ w' = w := by
  have H := Aside0.mk h
  clear h
  go_enter Try.func34, Try.ntmps34
  go_wp2_with fail
  refine (disk_file.dead H.out 0).mono ?_
  rintro e w1 ⟨rfl, rfl⟩
  go_wp2_with fail
  go_ret2
  exact ⟨rfl, rfl⟩
theorem disk_always.calls (v : Value) (w : World) : Calls Try.prog 66 #[v] w fun e w' => e = .returned (.int .i64 0) ∧ w' = w := by
  go_enter Try.func66, Try.ntmps66
  go_wp2_with fail
  go_ret
  exact ⟨rfl, rfl⟩
def syn (i : Bool) (d : D) : D := d.put i ⟨(d.fl i).now, (d.fl i).now, -1⟩
theorem disk_Sync_1.calls {g : Nat} {ok : Nat → Prop} {d : D} {w : World} (h : At g ok d w) (i : Bool) :
    Calls Try.prog 67 #[fo g i] w fun e w' => e = .returned (.tuple #[]) ∧ At g ok (syn i d) w' ∧ Tn g w w' := by
  have H := Aside0.mk h
  obtain ⟨v0, v1, v2, v3, HA, V0, V1, V2, V3⟩ := H.out.ex
  obtain ⟨A0, c0, rfl⟩ := Kd.V_slice V0
  obtain ⟨A1, c1, rfl⟩ := Kd.V_slice V1
  obtain ⟨A2, c2, rfl⟩ := Kd.V_slice V2
  obtain ⟨A3, c3, rfl⟩ := Kd.V_slice V3
  have hn := Aside0.mk H.out.nok
  cases i
  · simp only [fo]
    have x : w.cell? ⟨g, 0, none⟩ = some (.slice A0 d.a.now.length c0) := HA.cell 0
    have x1 : w.cell? ⟨g, 1, none⟩ = some (.slice A1 d.a.sure.length c1) := HA.cell 1
    have x2 : w.cell? ⟨g, 2, none⟩ = some (.int .i64 d.a.cut) := HA.cell 2
    have z1 : w.frozen? ⟨g, 1, none⟩ = false := HA.frozen 1
    have z2 : w.frozen? ⟨g, 2, none⟩ = false := HA.frozen 2
    have T := Aside0.mk (((Tn.refl g w).set_own 1 (.slice A0 d.a.now.length c0)).set_own 2 (.int .i64 (-1)))
    have HA_ := Aside0.mk ((HA.set 1 (.slice A0 d.a.now.length c0)).set 2 (.int .i64 (-1)))
    have HV := Aside0.mk (And.intro V0 (And.intro V1 (And.intro V2 V3)))
    clear HA V0 V1 V2 V3 h
    go_enter Try.func67, Try.ntmps67
    go_wp2_with fail
    obtain ⟨V0, V1, V2, V3⟩ := HV.out
    exact Go.Great.bodyPost_end0 rfl rfl ⟨rfl, H.out.turn T.out HA_.out (V_tn V0 hn.out T.out) (V_tn V0 hn.out T.out) (V_tn V2 hn.out T.out) (V_tn V3 hn.out T.out), T.out⟩
  · simp only [fo]
    have x : w.cell? ⟨g, 3, none⟩ = some (.slice A2 d.b.now.length c2) := HA.cell 3
    have x1 : w.cell? ⟨g, 4, none⟩ = some (.slice A3 d.b.sure.length c3) := HA.cell 4
    have x2 : w.cell? ⟨g, 5, none⟩ = some (.int .i64 d.b.cut) := HA.cell 5
    have z1 : w.frozen? ⟨g, 4, none⟩ = false := HA.frozen 4
    have z2 : w.frozen? ⟨g, 5, none⟩ = false := HA.frozen 5
    have T := Aside0.mk (((Tn.refl g w).set_own 4 (.slice A2 d.b.now.length c2)).set_own 5 (.int .i64 (-1)))
    have HA_ := Aside0.mk ((HA.set 4 (.slice A2 d.b.now.length c2)).set 5 (.int .i64 (-1)))
    have HV := Aside0.mk (And.intro V0 (And.intro V1 (And.intro V2 V3)))
    clear HA V0 V1 V2 V3 h
    go_enter Try.func67, Try.ntmps67
    go_wp2_with fail
    obtain ⟨V0, V1, V2, V3⟩ := HV.out
    exact Go.Great.bodyPost_end0 rfl rfl ⟨rfl, H.out.turn T.out HA_.out (V_tn V0 hn.out T.out) (V_tn V1 hn.out T.out) (V_tn V2 hn.out T.out) (V_tn V2 hn.out T.out), T.out⟩
theorem disk_Append_1.calls {g : Nat} {ok : Nat → Prop} {d : D} {w : World} (h : At g ok d w) (hr : Room d) {q1 q2 : Nat} {B : Option Addr} {n c : Nat} (y1 : w.cell? ⟨q1, 0, none⟩ = some (.slice B n c)) (y2 : w.cell? ⟨q2, 0, none⟩ = some (.pointer (some ⟨g, 0, none⟩))) (v : Value) :
    Calls Try.prog 64 #[v, .pointer (some ⟨q1, 0, none⟩), .pointer (some ⟨q2, 0, none⟩)] w fun e w' => e = .returned (.int .i64 (if d.room - d.a.now.length - d.b.now.length < n then 11 else 0)) ∧ Below w.heap.size w w' := by
  have H := Aside0.mk h
  have HR := Aside0.mk hr
  have Y1 := Aside0.mk y1
  have Y2 := Aside0.mk y2
  clear h hr
  by_cases hc : d.room - d.a.now.length - d.b.now.length < n
  · rw [if_pos hc]
    have hcb : decide ((n : Int) > d.room - d.a.now.length - d.b.now.length) = true := by simp only [gt_iff_lt]; exact decide_eq_true hc
    go_enter Try.func64, Try.ntmps64
    go_wp2_with fail
    refine start_ (n := 5) (S := fun w' => w'.cell? ⟨q1, 0, none⟩ = some (.slice B n c) ∧ w'.cell? ⟨q2, 0, none⟩ = some (.pointer (some ⟨g, 0, none⟩))) (ds := []) (bl 5 0x0) (by kernel_rfl) rfl (by kernel_rfl) ⟨y1, y2⟩ (fun hHeld => ?_)
    refine tk 0 (some 5) (bl 5 0x1) hHeld ?_
    refine pu 1 (some 6) (bl 5 0x3) ?_
    refine tk 2 (some 7) (bl 5 0x7) hHeld ?_
    refine one_ (i := 3) (N := some 8) (bl 5 0xf) rfl rfl (by kernel_rfl) (by decide) (fun K hK => ?_)
    refine goes_ Try.func50 (by kernel_rfl) rfl #[.pointer (some ⟨g, 0, none⟩)] (by rfl) rfl rfl (by simp only [List.map_toArray, List.map_cons, List.map_nil]; rfl) ?_
    with_reducible refine (disk_Left.calls (H.out.below (below_drew (Below.refl _ _))) HR.out).mono ?_
    rintro e w3 ⟨rfl, hb_⟩
    refine ⟨_, rfl, ?_⟩
    have HB := Aside0.mk ((below_drew (Below.refl _ w)).trans hb_)
    clear hb_
    refine hK.out _ _ ⟨pw_cell_below HB.out Y1.out, pw_cell_below HB.out Y2.out⟩ (fun hHeld => ?_)
    clear hK K
    refine norm_ (a' := ?_) ?_ ?_
    rotate_left
    · show Act.put _ (some 8) _ = _
      simp only [Act.put, List.setIfInBounds_toArray, List.set_cons_zero, List.set_cons_succ, i64_w, i32_w]
      rfl
    refine pu 4 (some 9) (bl 5 0x1f) ?_
    refine done_ (by kernel_rfl) ?_
    go_wp2_with fail
    go_ret
    exact ⟨rfl, HB.out⟩
  · rw [if_neg hc]
    have hcb : decide ((n : Int) > d.room - d.a.now.length - d.b.now.length) = false := by simp only [gt_iff_lt]; exact decide_eq_false hc
    go_enter Try.func64, Try.ntmps64
    go_wp2_with fail
    refine start_ (n := 5) (S := fun w' => w'.cell? ⟨q1, 0, none⟩ = some (.slice B n c) ∧ w'.cell? ⟨q2, 0, none⟩ = some (.pointer (some ⟨g, 0, none⟩))) (ds := []) (bl 5 0x0) (by kernel_rfl) rfl (by kernel_rfl) ⟨y1, y2⟩ (fun hHeld => ?_)
    refine tk 0 (some 5) (bl 5 0x1) hHeld ?_
    refine pu 1 (some 6) (bl 5 0x3) ?_
    refine tk 2 (some 7) (bl 5 0x7) hHeld ?_
    refine one_ (i := 3) (N := some 8) (bl 5 0xf) rfl rfl (by kernel_rfl) (by decide) (fun K hK => ?_)
    refine goes_ Try.func50 (by kernel_rfl) rfl #[.pointer (some ⟨g, 0, none⟩)] (by rfl) rfl rfl (by simp only [List.map_toArray, List.map_cons, List.map_nil]; rfl) ?_
    with_reducible refine (disk_Left.calls (H.out.below (below_drew (Below.refl _ _))) HR.out).mono ?_
    rintro e w3 ⟨rfl, hb_⟩
    refine ⟨_, rfl, ?_⟩
    have HB := Aside0.mk ((below_drew (Below.refl _ w)).trans hb_)
    clear hb_
    refine hK.out _ _ ⟨pw_cell_below HB.out Y1.out, pw_cell_below HB.out Y2.out⟩ (fun hHeld => ?_)
    clear hK K
    refine norm_ (a' := ?_) ?_ ?_
    rotate_left
    · show Act.put _ (some 8) _ = _
      simp only [Act.put, List.setIfInBounds_toArray, List.set_cons_zero, List.set_cons_succ, i64_w, i32_w]
      rfl
    refine pu 4 (some 9) (bl 5 0x1f) ?_
    refine done_ (by kernel_rfl) ?_
    go_wp2_with fail
    go_ret
    exact ⟨rfl, HB.out⟩
def app (i : Bool) (b : List Int) (d : D) : D := d.put i { d.fl i with now := (d.fl i).now ++ b }
theorem disk_Append_2.calls {g : Nat} {ok : Nat → Prop} {d : D} {w : World} (h : At g ok d w) (i : Bool) {q1 : Nat} {bv : Value} {b : List Int} {okb : Nat → Prop} (y1 : w.cell? ⟨q1, 0, none⟩ = some bv) (hb : Vb okb w bv b) (hn : (d.fl i).now.length + b.length ≤ 140737488355328) (hq : q1 ≠ g) :
    Calls Try.prog 65 #[fo g i, .pointer (some ⟨q1, 0, none⟩)] w fun e w' => e = .returned (.tuple #[]) ∧ At g ok (app i b d) w' ∧ Tn g w w' := by
  have H := Aside0.mk h
  obtain ⟨v0, v1, v2, v3, HA, V0, V1, V2, V3⟩ := H.out.ex
  obtain ⟨A0, c0, rfl⟩ := Kd.V_slice V0
  obtain ⟨A1, c1, rfl⟩ := Kd.V_slice V1
  obtain ⟨A2, c2, rfl⟩ := Kd.V_slice V2
  obtain ⟨A3, c3, rfl⟩ := Kd.V_slice V3
  obtain ⟨B, cb, rfl⟩ := Kd.V_slice hb
  have HN := Aside0.mk H.out.nok
  have Y1 := Aside0.mk y1
  have YB := Aside0.mk hb
  have HL := Aside0.mk hn
  cases i
  · simp only [fo]
    have x : w.cell? ⟨g, 0, none⟩ = some (.slice A0 d.a.now.length c0) := HA.cell 0
    have X := Aside0.mk x
    have HA_ := Aside0.mk HA
    have HV := Aside0.mk (And.intro V0 (And.intro V1 (And.intro V2 V3)))
    clear HA V0 V1 V2 V3 h hb hn
    go_enter Try.func65, Try.ntmps65
    go_wp2_with fail
    refine start_ (n := 11) (S := fun w' => w'.cell? ⟨g, 0, none⟩ = some (.slice A0 d.a.now.length c0) ∧ w'.cell? ⟨q1, 0, none⟩ = some (.slice B b.length cb)) (ds := [10]) (bl 11 0x0) (by kernel_rfl) rfl (by kernel_rfl) ⟨x, y1⟩ (fun hHeld => ?_)
    refine pu 0 (some 3) (bl 11 0x1) ?_
    refine pu 1 (some 4) (bl 11 0x3) ?_
    refine pu 2 (some 5) (bl 11 0x7) ?_
    refine pu 3 (some 6) (bl 11 0xf) ?_
    refine tk 4 (some 7) (bl 11 0x1f) hHeld ?_
    refine tk 6 (some 9) (bl 11 0x5f) hHeld ?_
    refine one_ (i := 5) (N := some 8) (bl 11 0x7f) rfl rfl (by kernel_rfl) (by decide) (fun K hK => ?_)
    refine goes_ Try.func42 (by kernel_rfl) rfl #[(.slice A0 d.a.now.length c0)] (by rfl) rfl rfl (by simp only [List.map_toArray, List.map_cons, List.map_nil]; rfl) ?_
    with_reducible refine (bytes_Clone.calls (Kd.V_below HV.out.1 (below_drew (Below.refl _ _))) (by have h1 := HL.out; have h2 : (d.fl false).now.length = d.a.now.length := rfl; omega)).mono ?_
    rintro e w3 ⟨vc, rfl, ho_, hb_⟩
    refine ⟨_, rfl, ?_⟩
    have HO := Aside0.mk ho_
    have HB := Aside0.mk ((below_drew (Below.refl _ w)).trans hb_)
    clear hb_ ho_
    refine hK.out _ _ ⟨pw_cell_below HB.out X.out, pw_cell_below HB.out Y1.out⟩ (fun hHeld => ?_)
    clear hK K
    refine norm_ (a' := ?_) ?_ ?_
    rotate_left
    · show Act.put _ (some 8) _ = _
      simp only [Act.put, List.setIfInBounds_toArray, List.set_cons_zero, List.set_cons_succ, i64_w, i32_w]
      rfl
    refine one_ (i := 7) (N := some 10) (bl 11 0xff) rfl rfl (by kernel_rfl) (by decide) (fun K hK => ?_)
    refine Kd.R_append_rows_step (Kd.int .u8) (w0 := w) w.heap.size (by rfl) _ _ 22 5 (.int .u8 0) 1 rfl Try.underlying22 info5 rfl (by decide) (by decide) vc d.a.now b B b.length cb (fun _ => True) (fun _ => False) rfl rfl HO.out (Kd.V_reads' (Kd.V_below YB.out HB.out)).2.2 (fun _ _ h => h) (fun _ h => h.elim) (fun _ _ => trivial) HB.out HB.out.size (by have h1 := HL.out; have h2 : (d.fl false).now.length = d.a.now.length := rfl; omega) ?_
    intro v4 w4 ho4 hb4 hg4 hat4
    obtain ⟨zs, hz⟩ : ∃ zs, zs = d.a.now ++ b := ⟨_, rfl⟩
    rw [← hz] at ho4
    obtain ⟨A4, c4, rfl⟩ := Kd.R_slice ho4
    have HO4 := Aside0.mk ho4
    have HB4 := Aside0.mk hb4
    have HZ := Aside0.mk hz
    clear ho4 hb4 hg4 hat4 hz
    have z4 : w4.frozen? ⟨g, 0, none⟩ = false := (HA_.out.below HB4.out H.out.lt).frozen 0
    have x4 : w4.cell? ⟨g, 0, none⟩ = some (.slice A0 d.a.now.length c0) := pw_cell_below HB4.out X.out
    refine hK.out _ _ ⟨pw_cell_below HB4.out X.out, pw_cell_below HB4.out Y1.out⟩ (fun hHeld => ?_)
    clear hK K
    refine norm_ (a' := ?_) ?_ ?_
    rotate_left
    · show Act.put _ (some 10) _ = _
      simp only [Act.put, List.setIfInBounds_toArray, List.set_cons_zero, List.set_cons_succ, i64_w, i32_w]
      rfl
    refine pu 8 (some 11) (bl 11 0x1ff) ?_
    refine pu 9 (some 12) (bl 11 0x3ff) ?_
    refine last_ (i := 10) (N := none) (bl 11 0x7ff) rfl rfl (by kernel_rfl) (by decide) (fun K hK => ?_)
    refine skip_ (w1 := ?_) (by rfl) rfl ?_ ?_
    rotate_left
    · go_simp
      rfl
    refine hK.out _ _ ?_
    clear hK K
    refine done_ (by kernel_rfl) ?_
    go_wp2_with fail
    have T := (Tn.of_below (g := g) HB4.out).set_own 0 (.slice A4 zs.length c4)
    obtain ⟨V0, V1, V2, V3⟩ := HV.out
    have V4 : Vb ok (w4.setCell ⟨g, 0, none⟩ (.slice A4 zs.length c4)) (.slice A4 zs.length c4) zs := V_tn (V_own HO4.out H.out.fresh) HN.out ((Tn.refl g w4).set_own _ _)
    have hz := HZ.out
    have hn := HN.out
    subst hz
    exact Go.Great.bodyPost_end0 rfl rfl ⟨rfl, H.out.turn T ((HA_.out.below HB4.out H.out.lt).set 0 _) V4 (V_tn V1 hn T) (V_tn V2 hn T) (V_tn V3 hn T), T⟩
  · simp only [fo]
    have x : w.cell? ⟨g, 3, none⟩ = some (.slice A2 d.b.now.length c2) := HA.cell 3
    have X := Aside0.mk x
    have HA_ := Aside0.mk HA
    have HV := Aside0.mk (And.intro V0 (And.intro V1 (And.intro V2 V3)))
    clear HA V0 V1 V2 V3 h hb hn
    go_enter Try.func65, Try.ntmps65
    go_wp2_with fail
    refine start_ (n := 11) (S := fun w' => w'.cell? ⟨g, 3, none⟩ = some (.slice A2 d.b.now.length c2) ∧ w'.cell? ⟨q1, 0, none⟩ = some (.slice B b.length cb)) (ds := [10]) (bl 11 0x0) (by kernel_rfl) rfl (by kernel_rfl) ⟨x, y1⟩ (fun hHeld => ?_)
    refine pu 0 (some 3) (bl 11 0x1) ?_
    refine pu 1 (some 4) (bl 11 0x3) ?_
    refine pu 2 (some 5) (bl 11 0x7) ?_
    refine pu 3 (some 6) (bl 11 0xf) ?_
    refine tk 4 (some 7) (bl 11 0x1f) hHeld ?_
    refine tk 6 (some 9) (bl 11 0x5f) hHeld ?_
    refine one_ (i := 5) (N := some 8) (bl 11 0x7f) rfl rfl (by kernel_rfl) (by decide) (fun K hK => ?_)
    refine goes_ Try.func42 (by kernel_rfl) rfl #[(.slice A2 d.b.now.length c2)] (by rfl) rfl rfl (by simp only [List.map_toArray, List.map_cons, List.map_nil]; rfl) ?_
    with_reducible refine (bytes_Clone.calls (Kd.V_below HV.out.2.2.1 (below_drew (Below.refl _ _))) (by have h1 := HL.out; have h2 : (d.fl true).now.length = d.b.now.length := rfl; omega)).mono ?_
    rintro e w3 ⟨vc, rfl, ho_, hb_⟩
    refine ⟨_, rfl, ?_⟩
    have HO := Aside0.mk ho_
    have HB := Aside0.mk ((below_drew (Below.refl _ w)).trans hb_)
    clear hb_ ho_
    refine hK.out _ _ ⟨pw_cell_below HB.out X.out, pw_cell_below HB.out Y1.out⟩ (fun hHeld => ?_)
    clear hK K
    refine norm_ (a' := ?_) ?_ ?_
    rotate_left
    · show Act.put _ (some 8) _ = _
      simp only [Act.put, List.setIfInBounds_toArray, List.set_cons_zero, List.set_cons_succ, i64_w, i32_w]
      rfl
    refine one_ (i := 7) (N := some 10) (bl 11 0xff) rfl rfl (by kernel_rfl) (by decide) (fun K hK => ?_)
    refine Kd.R_append_rows_step (Kd.int .u8) (w0 := w) w.heap.size (by rfl) _ _ 22 5 (.int .u8 0) 1 rfl Try.underlying22 info5 rfl (by decide) (by decide) vc d.b.now b B b.length cb (fun _ => True) (fun _ => False) rfl rfl HO.out (Kd.V_reads' (Kd.V_below YB.out HB.out)).2.2 (fun _ _ h => h) (fun _ h => h.elim) (fun _ _ => trivial) HB.out HB.out.size (by have h1 := HL.out; have h2 : (d.fl true).now.length = d.b.now.length := rfl; omega) ?_
    intro v4 w4 ho4 hb4 hg4 hat4
    obtain ⟨zs, hz⟩ : ∃ zs, zs = d.b.now ++ b := ⟨_, rfl⟩
    rw [← hz] at ho4
    obtain ⟨A4, c4, rfl⟩ := Kd.R_slice ho4
    have HO4 := Aside0.mk ho4
    have HB4 := Aside0.mk hb4
    have HZ := Aside0.mk hz
    clear ho4 hb4 hg4 hat4 hz
    have z4 : w4.frozen? ⟨g, 3, none⟩ = false := (HA_.out.below HB4.out H.out.lt).frozen 3
    have x4 : w4.cell? ⟨g, 3, none⟩ = some (.slice A2 d.b.now.length c2) := pw_cell_below HB4.out X.out
    refine hK.out _ _ ⟨pw_cell_below HB4.out X.out, pw_cell_below HB4.out Y1.out⟩ (fun hHeld => ?_)
    clear hK K
    refine norm_ (a' := ?_) ?_ ?_
    rotate_left
    · show Act.put _ (some 10) _ = _
      simp only [Act.put, List.setIfInBounds_toArray, List.set_cons_zero, List.set_cons_succ, i64_w, i32_w]
      rfl
    refine pu 8 (some 11) (bl 11 0x1ff) ?_
    refine pu 9 (some 12) (bl 11 0x3ff) ?_
    refine last_ (i := 10) (N := none) (bl 11 0x7ff) rfl rfl (by kernel_rfl) (by decide) (fun K hK => ?_)
    refine skip_ (w1 := ?_) (by rfl) rfl ?_ ?_
    rotate_left
    · go_simp
      rfl
    refine hK.out _ _ ?_
    clear hK K
    refine done_ (by kernel_rfl) ?_
    go_wp2_with fail
    have T := (Tn.of_below (g := g) HB4.out).set_own 3 (.slice A4 zs.length c4)
    obtain ⟨V0, V1, V2, V3⟩ := HV.out
    have V4 : Vb ok (w4.setCell ⟨g, 3, none⟩ (.slice A4 zs.length c4)) (.slice A4 zs.length c4) zs := V_tn (V_own HO4.out H.out.fresh) HN.out ((Tn.refl g w4).set_own _ _)
    have hz := HZ.out
    have hn := HN.out
    subst hz
    exact Go.Great.bodyPost_end0 rfl rfl ⟨rfl, H.out.turn T ((HA_.out.below HB4.out H.out.lt).set 3 _) (V_tn V0 hn T) (V_tn V1 hn T) V4 (V_tn V3 hn T), T⟩
theorem info_of5 : ∃ i, Try.prog.info? 5 = some i ∧ i.size = 1 := ⟨_, rfl, by kernel_rfl⟩
theorem take23 {A : Option Addr} {c : Nat} {xs : List Int} {n : Int} (h0 : 0 ≤ n) (h1 : n ≤ xs.length) (hc : xs.length ≤ c) (W : World) : (Instr.slice 22 (.slice A xs.length c) none (some (.int .i64 n)) none).run Try.prog W = .ok (.slice A (xs.take n.toNat).length c) W := by
  obtain ⟨i, hi, hs⟩ := info_of5
  exact (print_take_int (k := .u8) 22 5 Try.underlying22 hi hs A c xs n h0 h1 hc).1 W
theorem V_take {ok : Nat → Prop} {w : World} {A : Option Addr} {n c : Nat} {xs : List Int} (h : Vb ok w (.slice A n c) xs) {m : Nat} (hm : m ≤ xs.length) : Vb ok w (.slice A (xs.take m).length c) (xs.take m) := by
  obtain ⟨rfl, hc, hF⟩ := Kd.V_at h
  exact Kd.V_mk (by rw [List.length_take]; omega) (Kd.F_take hF hm)
theorem V_cut {ok : Nat → Prop} {w : World} {A : Option Addr} {n c : Nat} {xs : List Int} (h : Vb ok w (.slice A n c) xs) {m : Int} (h0 : 0 ≤ m) (hm : m ≤ xs.length) :
    ∃ A', (∀ W, (Instr.slice 22 (.slice A xs.length c) (some (.int .i64 m)) none none).run Try.prog W = .ok (.slice A' (xs.drop m.toNat).length (c - m.toNat)) W) ∧ Vb ok w (.slice A' (xs.drop m.toNat).length (c - m.toNat)) (xs.drop m.toNat) := by
  obtain ⟨rfl, hc, hF⟩ := Kd.V_at h
  obtain ⟨m, rfl⟩ := Int.eq_ofNat_of_zero_le h0
  have hm' : m ≤ xs.length := by omega
  refine ⟨if c = m then A else A.map (·.add (m * (Kd.int .u8).sz)), fun W => ?_, Kd.V_mk (by rw [List.length_drop, Int.toNat_natCast]; omega) (by rw [Int.toNat_natCast]; exact Kd.F_cut hF hm' hc)⟩
  have hel : Try.prog.elem 22 = 5 := by simp [Program.elem, Try.underlying22]
  have hu : Try.prog.underlying 22 = some (.slice (Try.prog.elem 22)) := by rw [hel]; exact Try.underlying22
  obtain ⟨i, hi, hs⟩ := info_of5
  rw [run_slice_l W 22 A xs.length c hu .i64 (m : Int) (Int.natCast_nonneg _) (by omega), hel]
  simp [sliced, hi, hs, Int.toNat_natCast, show (Kd.int .u8).sz = 1 from rfl]
def troom (n : Int) (f : Fl) : Int := if n < 0 ∨ (f.now.length : Int) < n then 1 else 0
set_option maxHeartbeats 4000000 in
theorem disk_Truncate_1.calls {g : Nat} {ok : Nat → Prop} {d : D} {w : World} (h : At g ok d w) (i : Bool) {q1 : Nat} {n : Int} (y1 : w.cell? ⟨q1, 0, none⟩ = some (.int .i64 n)) :
    Calls Try.prog 69 #[fo g i, .pointer (some ⟨q1, 0, none⟩)] w fun e w' => e = .returned (.int .i64 (troom n (d.fl i))) ∧ Below w.heap.size w w' := by
  obtain ⟨v0, v1, v2, v3, HA, V0, V1, V2, V3⟩ := h.ex
  obtain ⟨A0, c0, rfl⟩ := Kd.V_slice V0
  obtain ⟨A2, c2, rfl⟩ := Kd.V_slice V2
  cases i
  · simp only [fo]
    have x : w.cell? ⟨g, 0, none⟩ = some (.slice A0 d.a.now.length c0) := HA.cell 0
    clear HA V0 V1 V2 V3 h
    by_cases t1 : n < 0
    · rw [show troom n (d.fl false) = 1 from if_pos (Or.inl t1)]
      have t1b : decide (n < 0) = true := decide_eq_true t1
      go_enter Try.func69, Try.ntmps69
      go_wp2_with fail
      refine start_ (n := 11) (S := fun w' => w'.cell? ⟨g, 0, none⟩ = some (.slice A0 d.a.now.length c0) ∧ w'.cell? ⟨q1, 0, none⟩ = some (.int .i64 n)) (ds := []) (bl 11 0x0) (by kernel_rfl) rfl (by kernel_rfl) ⟨x, y1⟩ (fun hHeld => ?_)
      refine tk 0 (some 4) (bl 11 0x1) hHeld ?_
      refine pu 1 (some 5) (bl 11 0x3) ?_
      refine pu 2 (some 6) (bl 11 0x7) ?_
      refine po 3 (some 7) (bl 11 0xf) ?_
      refine po 4 (some 8) (bl 11 0x1f) ?_
      refine po 5 (some 9) (bl 11 0x3f) ?_
      refine po 6 (some 10) (bl 11 0x7f) ?_
      refine po 7 (some 11) (bl 11 0xff) ?_
      refine po 8 (some 12) (bl 11 0x1ff) ?_
      refine po 9 (some 13) (bl 11 0x3ff) ?_
      refine pu 10 (some 14) (bl 11 0x7ff) ?_
      refine done_ (by kernel_rfl) ?_
      go_wp2_with fail
      go_ret
      exact ⟨rfl, below_drew (Below.refl _ _)⟩
    · have t1b : decide (n < 0) = false := decide_eq_false t1
      by_cases t2 : (d.a.now.length : Int) < n
      · rw [show troom n (d.fl false) = 1 from if_pos (Or.inr t2)]
        have t2b : decide (n > (d.a.now.length : Int)) = true := decide_eq_true t2
        go_enter Try.func69, Try.ntmps69
        go_wp2_with fail
        refine start_ (n := 11) (S := fun w' => w'.cell? ⟨g, 0, none⟩ = some (.slice A0 d.a.now.length c0) ∧ w'.cell? ⟨q1, 0, none⟩ = some (.int .i64 n)) (ds := []) (bl 11 0x0) (by kernel_rfl) rfl (by kernel_rfl) ⟨x, y1⟩ (fun hHeld => ?_)
        refine tk 0 (some 4) (bl 11 0x1) hHeld ?_
        refine pu 1 (some 5) (bl 11 0x3) ?_
        refine pu 2 (some 6) (bl 11 0x7) ?_
        refine pu 4 (some 8) (bl 11 0x17) ?_
        refine pu 5 (some 9) (bl 11 0x37) ?_
        refine pu 6 (some 10) (bl 11 0x77) ?_
        refine tk 3 (some 7) (bl 11 0x7f) hHeld ?_
        refine tk 7 (some 11) (bl 11 0xff) hHeld ?_
        refine pu 8 (some 12) (bl 11 0x1ff) ?_
        refine pu 9 (some 13) (bl 11 0x3ff) ?_
        refine pu 10 (some 14) (bl 11 0x7ff) ?_
        refine done_ (by kernel_rfl) ?_
        go_wp2_with fail
        go_ret
        exact ⟨rfl, below_drew (Below.refl _ _)⟩
      · rw [show troom n (d.fl false) = 0 from if_neg (fun hh => hh.elim t1 t2)]
        have t2b : decide (n > (d.a.now.length : Int)) = false := decide_eq_false t2
        go_enter Try.func69, Try.ntmps69
        go_wp2_with fail
        refine start_ (n := 11) (S := fun w' => w'.cell? ⟨g, 0, none⟩ = some (.slice A0 d.a.now.length c0) ∧ w'.cell? ⟨q1, 0, none⟩ = some (.int .i64 n)) (ds := []) (bl 11 0x0) (by kernel_rfl) rfl (by kernel_rfl) ⟨x, y1⟩ (fun hHeld => ?_)
        refine tk 0 (some 4) (bl 11 0x1) hHeld ?_
        refine pu 1 (some 5) (bl 11 0x3) ?_
        refine pu 2 (some 6) (bl 11 0x7) ?_
        refine pu 4 (some 8) (bl 11 0x17) ?_
        refine pu 5 (some 9) (bl 11 0x37) ?_
        refine pu 6 (some 10) (bl 11 0x77) ?_
        refine tk 3 (some 7) (bl 11 0x7f) hHeld ?_
        refine tk 7 (some 11) (bl 11 0xff) hHeld ?_
        refine pu 8 (some 12) (bl 11 0x1ff) ?_
        refine pu 9 (some 13) (bl 11 0x3ff) ?_
        refine pu 10 (some 14) (bl 11 0x7ff) ?_
        refine done_ (by kernel_rfl) ?_
        go_wp2_with fail
        go_ret
        exact ⟨rfl, below_drew (Below.refl _ _)⟩
  · simp only [fo]
    have x : w.cell? ⟨g, 3, none⟩ = some (.slice A2 d.b.now.length c2) := HA.cell 3
    clear HA V0 V1 V2 V3 h
    by_cases t1 : n < 0
    · rw [show troom n (d.fl true) = 1 from if_pos (Or.inl t1)]
      have t1b : decide (n < 0) = true := decide_eq_true t1
      go_enter Try.func69, Try.ntmps69
      go_wp2_with fail
      refine start_ (n := 11) (S := fun w' => w'.cell? ⟨g, 3, none⟩ = some (.slice A2 d.b.now.length c2) ∧ w'.cell? ⟨q1, 0, none⟩ = some (.int .i64 n)) (ds := []) (bl 11 0x0) (by kernel_rfl) rfl (by kernel_rfl) ⟨x, y1⟩ (fun hHeld => ?_)
      refine tk 0 (some 4) (bl 11 0x1) hHeld ?_
      refine pu 1 (some 5) (bl 11 0x3) ?_
      refine pu 2 (some 6) (bl 11 0x7) ?_
      refine po 3 (some 7) (bl 11 0xf) ?_
      refine po 4 (some 8) (bl 11 0x1f) ?_
      refine po 5 (some 9) (bl 11 0x3f) ?_
      refine po 6 (some 10) (bl 11 0x7f) ?_
      refine po 7 (some 11) (bl 11 0xff) ?_
      refine po 8 (some 12) (bl 11 0x1ff) ?_
      refine po 9 (some 13) (bl 11 0x3ff) ?_
      refine pu 10 (some 14) (bl 11 0x7ff) ?_
      refine done_ (by kernel_rfl) ?_
      go_wp2_with fail
      go_ret
      exact ⟨rfl, below_drew (Below.refl _ _)⟩
    · have t1b : decide (n < 0) = false := decide_eq_false t1
      by_cases t2 : (d.b.now.length : Int) < n
      · rw [show troom n (d.fl true) = 1 from if_pos (Or.inr t2)]
        have t2b : decide (n > (d.b.now.length : Int)) = true := decide_eq_true t2
        go_enter Try.func69, Try.ntmps69
        go_wp2_with fail
        refine start_ (n := 11) (S := fun w' => w'.cell? ⟨g, 3, none⟩ = some (.slice A2 d.b.now.length c2) ∧ w'.cell? ⟨q1, 0, none⟩ = some (.int .i64 n)) (ds := []) (bl 11 0x0) (by kernel_rfl) rfl (by kernel_rfl) ⟨x, y1⟩ (fun hHeld => ?_)
        refine tk 0 (some 4) (bl 11 0x1) hHeld ?_
        refine pu 1 (some 5) (bl 11 0x3) ?_
        refine pu 2 (some 6) (bl 11 0x7) ?_
        refine pu 4 (some 8) (bl 11 0x17) ?_
        refine pu 5 (some 9) (bl 11 0x37) ?_
        refine pu 6 (some 10) (bl 11 0x77) ?_
        refine tk 3 (some 7) (bl 11 0x7f) hHeld ?_
        refine tk 7 (some 11) (bl 11 0xff) hHeld ?_
        refine pu 8 (some 12) (bl 11 0x1ff) ?_
        refine pu 9 (some 13) (bl 11 0x3ff) ?_
        refine pu 10 (some 14) (bl 11 0x7ff) ?_
        refine done_ (by kernel_rfl) ?_
        go_wp2_with fail
        go_ret
        exact ⟨rfl, below_drew (Below.refl _ _)⟩
      · rw [show troom n (d.fl true) = 0 from if_neg (fun hh => hh.elim t1 t2)]
        have t2b : decide (n > (d.b.now.length : Int)) = false := decide_eq_false t2
        go_enter Try.func69, Try.ntmps69
        go_wp2_with fail
        refine start_ (n := 11) (S := fun w' => w'.cell? ⟨g, 3, none⟩ = some (.slice A2 d.b.now.length c2) ∧ w'.cell? ⟨q1, 0, none⟩ = some (.int .i64 n)) (ds := []) (bl 11 0x0) (by kernel_rfl) rfl (by kernel_rfl) ⟨x, y1⟩ (fun hHeld => ?_)
        refine tk 0 (some 4) (bl 11 0x1) hHeld ?_
        refine pu 1 (some 5) (bl 11 0x3) ?_
        refine pu 2 (some 6) (bl 11 0x7) ?_
        refine pu 4 (some 8) (bl 11 0x17) ?_
        refine pu 5 (some 9) (bl 11 0x37) ?_
        refine pu 6 (some 10) (bl 11 0x77) ?_
        refine tk 3 (some 7) (bl 11 0x7f) hHeld ?_
        refine tk 7 (some 11) (bl 11 0xff) hHeld ?_
        refine pu 8 (some 12) (bl 11 0x1ff) ?_
        refine pu 9 (some 13) (bl 11 0x3ff) ?_
        refine pu 10 (some 14) (bl 11 0x7ff) ?_
        refine done_ (by kernel_rfl) ?_
        go_wp2_with fail
        go_ret
        exact ⟨rfl, below_drew (Below.refl _ _)⟩
def tru (i : Bool) (n : Int) (d : D) : D := d.put i { d.fl i with now := (d.fl i).now.take n.toNat, cut := if n < ((d.fl i).sure.length : Int) ∧ ((d.fl i).cut = -1 ∨ n < (d.fl i).cut) then n else (d.fl i).cut }
set_option maxHeartbeats 4000000 in
set_option maxRecDepth 100000 in
theorem disk_Truncate_2.calls {g : Nat} {ok : Nat → Prop} {d : D} {w : World} (h : At g ok d w) (i : Bool) {q1 : Nat} {n : Int} (y1 : w.cell? ⟨q1, 0, none⟩ = some (.int .i64 n)) (hq : q1 ≠ g) (h0 : 0 ≤ n) (h1 : n ≤ (d.fl i).now.length) :
    Calls Try.prog 70 #[fo g i, .pointer (some ⟨q1, 0, none⟩)] w fun e w' => e = .returned (.tuple #[]) ∧ At g ok (tru i n d) w' ∧ Tn g w w' := by
  have H := Aside0.mk h
  obtain ⟨v0, v1, v2, v3, HA, V0, V1, V2, V3⟩ := h.ex
  obtain ⟨A0, c0, rfl⟩ := Kd.V_slice V0
  obtain ⟨A1, c1, rfl⟩ := Kd.V_slice V1
  obtain ⟨A2, c2, rfl⟩ := Kd.V_slice V2
  obtain ⟨A3, c3, rfl⟩ := Kd.V_slice V3
  have HN := Aside0.mk H.out.nok
  have HQ := Aside0.mk hq
  cases i
  · simp only [fo]
    have h1 : n ≤ (d.a.now.length : Int) := h1
    have V4_ := V_take V0 (m := n.toNat) (by omega)
    have hc := (Kd.V_at V0).2.1
    have hs := fun W => take23 (A := A0) (c := c0) (xs := d.a.now) h0 h1 hc W
    obtain ⟨zs, hz⟩ : ∃ zs, zs = d.a.now.take n.toNat := ⟨_, rfl⟩
    rw [← hz] at V4_ hs
    have V4 := Aside0.mk V4_
    have HZ := Aside0.mk hz
    clear V4_ hz hc
    have x : w.cell? ⟨g, 0, none⟩ = some (.slice A0 d.a.now.length c0) := HA.cell 0
    have z : w.frozen? ⟨g, 0, none⟩ = false := HA.frozen 0
    have zd : w.drew.frozen? ⟨g, 0, none⟩ = false := HA.frozen 0
    have xd : w.drew.cell? ⟨g, 0, none⟩ = some (.slice A0 d.a.now.length c0) := HA.cell 0
    have HA_ := Aside0.mk (HA.set 0 (.slice A0 zs.length c0))
    have HV := Aside0.mk (And.intro V0 (And.intro V1 (And.intro V2 V3)))
    have T0 := Aside0.mk ((Tn.refl g w).set_own 0 (.slice A0 zs.length c0))
    have Y1 : (w.setCell ⟨g, 0, none⟩ (.slice A0 zs.length c0)).cell? ⟨q1, 0, none⟩ = some (.int .i64 n) := (World.cell?_of_block (w := w) (Below.heap_setCell _ _ _ _ hq)).trans y1
    clear HA V0 V1 V2 V3 h
    have fin : ∀ (cc : Int) (W : World), cc = (if n < (d.a.sure.length : Int) ∧ (d.a.cut = -1 ∨ n < d.a.cut) then n else d.a.cut) → Blk.At g (cells (.slice A0 zs.length c0) (.slice A1 d.a.sure.length c1) (.slice A2 d.b.now.length c2) (.slice A3 d.b.sure.length c3) { d with a := ⟨zs, d.a.sure, cc⟩ }) 93 W → Tn g w W → At g ok (tru false n d) W := by
      intro cc W hcc hA hT
      subst hcc
      have hz := HZ.out
      have V4 := V4.out
      subst hz
      obtain ⟨V0, V1, V2, V3⟩ := HV.out
      have hn := HN.out
      exact H.out.turn hT hA (V_tn V4 hn hT) (V_tn V1 hn hT) (V_tn V2 hn hT) (V_tn V3 hn hT)
    have FIN := Aside0.mk fin
    clear fin
    go_enter Try.func70, Try.ntmps70
    go_wp2_with fail
    refine start_ (n := 10) (S := fun w' => w'.cell? ⟨g, 0, none⟩ = some (.slice A0 d.a.now.length c0) ∧ w'.cell? ⟨q1, 0, none⟩ = some (.int .i64 n)) (ds := [9]) (bl 10 0x0) (by kernel_rfl) rfl (by kernel_rfl) ⟨x, y1⟩ (fun hHeld => ?_)
    refine pu 0 (some 3) (bl 10 0x1) ?_
    refine pu 1 (some 4) (bl 10 0x3) ?_
    refine pu 2 (some 5) (bl 10 0x7) ?_
    refine pu 3 (some 6) (bl 10 0xf) ?_
    refine tk 4 (some 7) (bl 10 0x1f) hHeld ?_
    refine tk 5 (some 8) (bl 10 0x3f) hHeld ?_
    refine pu 6 (some 9) (bl 10 0x7f) ?_
    refine pu 7 (some 10) (bl 10 0xff) ?_
    refine pu 8 (some 11) (bl 10 0x1ff) ?_
    refine last_ (i := 9) (N := none) (bl 10 0x3ff) rfl rfl (by kernel_rfl) (by decide) (fun K hK => ?_)
    refine skip_ (w1 := ?_) (by rfl) rfl ?_ ?_
    rotate_left
    · go_simp
      rfl
    refine hK.out _ _ ?_
    clear hK K
    refine done_ (by kernel_rfl) ?_
    generalize w.setCell ⟨g, 0, none⟩ (.slice A0 zs.length c0) = W1 at HA_ T0 Y1 ⊢
    have q1_ : W1.cell? ⟨g, 1, none⟩ = some (.slice A1 d.a.sure.length c1) := HA_.out.cell 1
    have q2_ : W1.cell? ⟨g, 2, none⟩ = some (.int .i64 d.a.cut) := HA_.out.cell 2
    have qz : W1.drew.drew.frozen? ⟨g, 2, none⟩ = false := HA_.out.frozen 2
    have qd : W1.drew.drew.cell? ⟨g, 2, none⟩ = some (.int .i64 d.a.cut) := HA_.out.cell 2
    have qn : W1.drew.drew.cell? ⟨q1, 0, none⟩ = some (.int .i64 n) := Y1
    clear x z zd xd hs
    by_cases k1 : n < (d.a.sure.length : Int)
    case neg =>
      have k1b : decide (n < (d.a.sure.length : Int)) = false := decide_eq_false k1
      have K1 := Aside0.mk k1
      clear k1
      go_wp2_with fail
      refine start_ (n := 22) (S := fun w' => w'.cell? ⟨g, 1, none⟩ = some (.slice A1 d.a.sure.length c1) ∧ w'.cell? ⟨g, 2, none⟩ = some (.int .i64 d.a.cut) ∧ w'.cell? ⟨q1, 0, none⟩ = some (.int .i64 n)) (ds := []) (bl 22 0x0) (by kernel_rfl) rfl (by kernel_rfl) ⟨q1_, q2_, Y1⟩ (fun hHeld => ?_)
      refine pu 1 (some 13) (bl 22 0x2) ?_
      refine pu 2 (some 14) (bl 22 0x6) ?_
      refine pu 3 (some 15) (bl 22 0xe) ?_
      refine tk 0 (some 12) (bl 22 0xf) hHeld ?_
      refine tk 4 (some 16) (bl 22 0x1f) hHeld ?_
      refine pu 5 (some 17) (bl 22 0x3f) ?_
      refine pu 6 (some 18) (bl 22 0x7f) ?_
      refine pu 7 (some 19) (bl 22 0xff) ?_
      refine po 8 (some 20) (bl 22 0x1ff) ?_
      refine po 9 (some 21) (bl 22 0x3ff) ?_
      refine po 10 (some 22) (bl 22 0x7ff) ?_
      refine po 11 (some 23) (bl 22 0xfff) ?_
      refine po 12 (some 24) (bl 22 0x1fff) ?_
      refine po 13 (some 25) (bl 22 0x3fff) ?_
      refine po 14 (some 26) (bl 22 0x7fff) ?_
      refine po 15 (some 27) (bl 22 0xffff) ?_
      refine po 16 (some 28) (bl 22 0x1ffff) ?_
      refine po 17 (some 29) (bl 22 0x3ffff) ?_
      refine po 18 (some 30) (bl 22 0x7ffff) ?_
      refine po 19 (some 31) (bl 22 0xfffff) ?_
      refine po 20 (some 32) (bl 22 0x1fffff) ?_
      refine pu 21 (some 33) (bl 22 0x3fffff) ?_
      refine done_ (by kernel_rfl) ?_
      go_wp2_with fail
      exact Go.Great.bodyPost_end0 rfl rfl ⟨rfl, FIN.out d.a.cut _ (by rw [if_neg (fun hh => absurd hh.1 (by have := K1.out; omega))]) HA_.out T0.out.drew.drew, T0.out.drew.drew⟩
    have k1b : decide (n < (d.a.sure.length : Int)) = true := decide_eq_true k1
    by_cases k2 : d.a.cut = -1
    case pos =>
      have k2b : (d.a.cut == -1) = true := by simpa using k2
      have k2c := Aside0.mk k2
      have K1 := Aside0.mk k1
      clear k2 k1
      go_wp2_with fail
      refine start_ (n := 22) (S := fun w' => w'.cell? ⟨g, 1, none⟩ = some (.slice A1 d.a.sure.length c1) ∧ w'.cell? ⟨g, 2, none⟩ = some (.int .i64 d.a.cut) ∧ w'.cell? ⟨q1, 0, none⟩ = some (.int .i64 n)) (ds := []) (bl 22 0x0) (by kernel_rfl) rfl (by kernel_rfl) ⟨q1_, q2_, Y1⟩ (fun hHeld => ?_)
      refine pu 1 (some 13) (bl 22 0x2) ?_
      refine pu 2 (some 14) (bl 22 0x6) ?_
      refine pu 3 (some 15) (bl 22 0xe) ?_
      refine tk 0 (some 12) (bl 22 0xf) hHeld ?_
      refine tk 4 (some 16) (bl 22 0x1f) hHeld ?_
      refine pu 5 (some 17) (bl 22 0x3f) ?_
      refine pu 6 (some 18) (bl 22 0x7f) ?_
      refine pu 7 (some 19) (bl 22 0xff) ?_
      refine pu 8 (some 20) (bl 22 0x1ff) ?_
      refine pu 9 (some 21) (bl 22 0x3ff) ?_
      refine pu 10 (some 22) (bl 22 0x7ff) ?_
      refine tk 11 (some 23) (bl 22 0xfff) hHeld ?_
      refine pu 12 (some 24) (bl 22 0x1fff) ?_
      refine pu 13 (some 25) (bl 22 0x3fff) ?_
      refine po 14 (some 26) (bl 22 0x7fff) ?_
      refine po 15 (some 27) (bl 22 0xffff) ?_
      refine po 16 (some 28) (bl 22 0x1ffff) ?_
      refine po 17 (some 29) (bl 22 0x3ffff) ?_
      refine po 18 (some 30) (bl 22 0x7ffff) ?_
      refine po 19 (some 31) (bl 22 0xfffff) ?_
      refine pu 20 (some 32) (bl 22 0x1fffff) ?_
      refine pu 21 (some 33) (bl 22 0x3fffff) ?_
      refine done_ (by kernel_rfl) ?_
      go_wp2_with fail
      have TT := (T0.out.set_own 2 (.int .i64 n)).drew.drew
      exact Go.Great.bodyPost_end0 rfl rfl ⟨rfl, FIN.out n _ (by rw [if_pos ⟨K1.out, .inl k2c.out⟩]) (HA_.out.set 2 (.int .i64 n)) TT, TT⟩
    have k2b : (d.a.cut == -1) = false := by simpa using k2
    have K2 := Aside0.mk k2
    have K1 := Aside0.mk k1
    clear k1 k2
    by_cases k3 : n < d.a.cut
    · have k3b : decide (n < d.a.cut) = true := decide_eq_true k3
      have K3 := Aside0.mk k3
      clear k3
      go_wp2_with fail
      refine start_ (n := 22) (S := fun w' => w'.cell? ⟨g, 1, none⟩ = some (.slice A1 d.a.sure.length c1) ∧ w'.cell? ⟨g, 2, none⟩ = some (.int .i64 d.a.cut) ∧ w'.cell? ⟨q1, 0, none⟩ = some (.int .i64 n)) (ds := []) (bl 22 0x0) (by kernel_rfl) rfl (by kernel_rfl) ⟨q1_, q2_, Y1⟩ (fun hHeld => ?_)
      refine pu 1 (some 13) (bl 22 0x2) ?_
      refine pu 2 (some 14) (bl 22 0x6) ?_
      refine pu 3 (some 15) (bl 22 0xe) ?_
      refine tk 0 (some 12) (bl 22 0xf) hHeld ?_
      refine tk 4 (some 16) (bl 22 0x1f) hHeld ?_
      refine pu 5 (some 17) (bl 22 0x3f) ?_
      refine pu 6 (some 18) (bl 22 0x7f) ?_
      refine pu 7 (some 19) (bl 22 0xff) ?_
      refine pu 8 (some 20) (bl 22 0x1ff) ?_
      refine pu 9 (some 21) (bl 22 0x3ff) ?_
      refine pu 10 (some 22) (bl 22 0x7ff) ?_
      refine tk 11 (some 23) (bl 22 0xfff) hHeld ?_
      refine pu 12 (some 24) (bl 22 0x1fff) ?_
      refine pu 13 (some 25) (bl 22 0x3fff) ?_
      refine pu 15 (some 27) (bl 22 0xbfff) ?_
      refine pu 16 (some 28) (bl 22 0x1bfff) ?_
      refine pu 17 (some 29) (bl 22 0x3bfff) ?_
      refine tk 14 (some 26) (bl 22 0x3ffff) hHeld ?_
      refine tk 18 (some 30) (bl 22 0x7ffff) hHeld ?_
      refine pu 19 (some 31) (bl 22 0xfffff) ?_
      refine pu 20 (some 32) (bl 22 0x1fffff) ?_
      refine pu 21 (some 33) (bl 22 0x3fffff) ?_
      refine done_ (by kernel_rfl) ?_
      go_wp2_with fail
      have TT := (T0.out.set_own 2 (.int .i64 n)).drew.drew
      exact Go.Great.bodyPost_end0 rfl rfl ⟨rfl, FIN.out n _ (by rw [if_pos ⟨K1.out, .inr K3.out⟩]) (HA_.out.set 2 (.int .i64 n)) TT, TT⟩
    · have k3b : decide (n < d.a.cut) = false := decide_eq_false k3
      have K3 := Aside0.mk k3
      clear k3
      go_wp2_with fail
      refine start_ (n := 22) (S := fun w' => w'.cell? ⟨g, 1, none⟩ = some (.slice A1 d.a.sure.length c1) ∧ w'.cell? ⟨g, 2, none⟩ = some (.int .i64 d.a.cut) ∧ w'.cell? ⟨q1, 0, none⟩ = some (.int .i64 n)) (ds := []) (bl 22 0x0) (by kernel_rfl) rfl (by kernel_rfl) ⟨q1_, q2_, Y1⟩ (fun hHeld => ?_)
      refine pu 1 (some 13) (bl 22 0x2) ?_
      refine pu 2 (some 14) (bl 22 0x6) ?_
      refine pu 3 (some 15) (bl 22 0xe) ?_
      refine tk 0 (some 12) (bl 22 0xf) hHeld ?_
      refine tk 4 (some 16) (bl 22 0x1f) hHeld ?_
      refine pu 5 (some 17) (bl 22 0x3f) ?_
      refine pu 6 (some 18) (bl 22 0x7f) ?_
      refine pu 7 (some 19) (bl 22 0xff) ?_
      refine pu 8 (some 20) (bl 22 0x1ff) ?_
      refine pu 9 (some 21) (bl 22 0x3ff) ?_
      refine pu 10 (some 22) (bl 22 0x7ff) ?_
      refine tk 11 (some 23) (bl 22 0xfff) hHeld ?_
      refine pu 12 (some 24) (bl 22 0x1fff) ?_
      refine pu 13 (some 25) (bl 22 0x3fff) ?_
      refine pu 15 (some 27) (bl 22 0xbfff) ?_
      refine pu 16 (some 28) (bl 22 0x1bfff) ?_
      refine pu 17 (some 29) (bl 22 0x3bfff) ?_
      refine tk 14 (some 26) (bl 22 0x3ffff) hHeld ?_
      refine tk 18 (some 30) (bl 22 0x7ffff) hHeld ?_
      refine pu 19 (some 31) (bl 22 0xfffff) ?_
      refine pu 20 (some 32) (bl 22 0x1fffff) ?_
      refine pu 21 (some 33) (bl 22 0x3fffff) ?_
      refine done_ (by kernel_rfl) ?_
      go_wp2_with fail
      exact Go.Great.bodyPost_end0 rfl rfl ⟨rfl, FIN.out d.a.cut _ (by rw [if_neg (fun hh => hh.2.elim K2.out (fun q => absurd q (by have := K3.out; omega)))]) HA_.out T0.out.drew.drew, T0.out.drew.drew⟩
  · simp only [fo]
    have h1 : n ≤ (d.b.now.length : Int) := h1
    have V4_ := V_take V2 (m := n.toNat) (by omega)
    have hc := (Kd.V_at V2).2.1
    have hs := fun W => take23 (A := A2) (c := c2) (xs := d.b.now) h0 h1 hc W
    obtain ⟨zs, hz⟩ : ∃ zs, zs = d.b.now.take n.toNat := ⟨_, rfl⟩
    rw [← hz] at V4_ hs
    have V4 := Aside0.mk V4_
    have HZ := Aside0.mk hz
    clear V4_ hz hc
    have x : w.cell? ⟨g, 3, none⟩ = some (.slice A2 d.b.now.length c2) := HA.cell 3
    have z : w.frozen? ⟨g, 3, none⟩ = false := HA.frozen 3
    have zd : w.drew.frozen? ⟨g, 3, none⟩ = false := HA.frozen 3
    have xd : w.drew.cell? ⟨g, 3, none⟩ = some (.slice A2 d.b.now.length c2) := HA.cell 3
    have HA_ := Aside0.mk (HA.set 3 (.slice A2 zs.length c2))
    have HV := Aside0.mk (And.intro V0 (And.intro V1 (And.intro V2 V3)))
    have T0 := Aside0.mk ((Tn.refl g w).set_own 3 (.slice A2 zs.length c2))
    have Y1 : (w.setCell ⟨g, 3, none⟩ (.slice A2 zs.length c2)).cell? ⟨q1, 0, none⟩ = some (.int .i64 n) := (World.cell?_of_block (w := w) (Below.heap_setCell _ _ _ _ hq)).trans y1
    clear HA V0 V1 V2 V3 h
    have fin : ∀ (cc : Int) (W : World), cc = (if n < (d.b.sure.length : Int) ∧ (d.b.cut = -1 ∨ n < d.b.cut) then n else d.b.cut) → Blk.At g (cells (.slice A0 d.a.now.length c0) (.slice A1 d.a.sure.length c1) (.slice A2 zs.length c2) (.slice A3 d.b.sure.length c3) { d with b := ⟨zs, d.b.sure, cc⟩ }) 93 W → Tn g w W → At g ok (tru true n d) W := by
      intro cc W hcc hA hT
      subst hcc
      have hz := HZ.out
      have V4 := V4.out
      subst hz
      obtain ⟨V0, V1, V2, V3⟩ := HV.out
      have hn := HN.out
      exact H.out.turn hT hA (V_tn V0 hn hT) (V_tn V1 hn hT) (V_tn V4 hn hT) (V_tn V3 hn hT)
    have FIN := Aside0.mk fin
    clear fin
    go_enter Try.func70, Try.ntmps70
    go_wp2_with fail
    refine start_ (n := 10) (S := fun w' => w'.cell? ⟨g, 3, none⟩ = some (.slice A2 d.b.now.length c2) ∧ w'.cell? ⟨q1, 0, none⟩ = some (.int .i64 n)) (ds := [9]) (bl 10 0x0) (by kernel_rfl) rfl (by kernel_rfl) ⟨x, y1⟩ (fun hHeld => ?_)
    refine pu 0 (some 3) (bl 10 0x1) ?_
    refine pu 1 (some 4) (bl 10 0x3) ?_
    refine pu 2 (some 5) (bl 10 0x7) ?_
    refine pu 3 (some 6) (bl 10 0xf) ?_
    refine tk 4 (some 7) (bl 10 0x1f) hHeld ?_
    refine tk 5 (some 8) (bl 10 0x3f) hHeld ?_
    refine pu 6 (some 9) (bl 10 0x7f) ?_
    refine pu 7 (some 10) (bl 10 0xff) ?_
    refine pu 8 (some 11) (bl 10 0x1ff) ?_
    refine last_ (i := 9) (N := none) (bl 10 0x3ff) rfl rfl (by kernel_rfl) (by decide) (fun K hK => ?_)
    refine skip_ (w1 := ?_) (by rfl) rfl ?_ ?_
    rotate_left
    · go_simp
      rfl
    refine hK.out _ _ ?_
    clear hK K
    refine done_ (by kernel_rfl) ?_
    generalize w.setCell ⟨g, 3, none⟩ (.slice A2 zs.length c2) = W1 at HA_ T0 Y1 ⊢
    have q1_ : W1.cell? ⟨g, 4, none⟩ = some (.slice A3 d.b.sure.length c3) := HA_.out.cell 4
    have q2_ : W1.cell? ⟨g, 5, none⟩ = some (.int .i64 d.b.cut) := HA_.out.cell 5
    have qz : W1.drew.drew.frozen? ⟨g, 5, none⟩ = false := HA_.out.frozen 5
    have qd : W1.drew.drew.cell? ⟨g, 5, none⟩ = some (.int .i64 d.b.cut) := HA_.out.cell 5
    have qn : W1.drew.drew.cell? ⟨q1, 0, none⟩ = some (.int .i64 n) := Y1
    clear x z zd xd hs
    by_cases k1 : n < (d.b.sure.length : Int)
    case neg =>
      have k1b : decide (n < (d.b.sure.length : Int)) = false := decide_eq_false k1
      have K1 := Aside0.mk k1
      clear k1
      go_wp2_with fail
      refine start_ (n := 22) (S := fun w' => w'.cell? ⟨g, 4, none⟩ = some (.slice A3 d.b.sure.length c3) ∧ w'.cell? ⟨g, 5, none⟩ = some (.int .i64 d.b.cut) ∧ w'.cell? ⟨q1, 0, none⟩ = some (.int .i64 n)) (ds := []) (bl 22 0x0) (by kernel_rfl) rfl (by kernel_rfl) ⟨q1_, q2_, Y1⟩ (fun hHeld => ?_)
      refine pu 1 (some 13) (bl 22 0x2) ?_
      refine pu 2 (some 14) (bl 22 0x6) ?_
      refine pu 3 (some 15) (bl 22 0xe) ?_
      refine tk 0 (some 12) (bl 22 0xf) hHeld ?_
      refine tk 4 (some 16) (bl 22 0x1f) hHeld ?_
      refine pu 5 (some 17) (bl 22 0x3f) ?_
      refine pu 6 (some 18) (bl 22 0x7f) ?_
      refine pu 7 (some 19) (bl 22 0xff) ?_
      refine po 8 (some 20) (bl 22 0x1ff) ?_
      refine po 9 (some 21) (bl 22 0x3ff) ?_
      refine po 10 (some 22) (bl 22 0x7ff) ?_
      refine po 11 (some 23) (bl 22 0xfff) ?_
      refine po 12 (some 24) (bl 22 0x1fff) ?_
      refine po 13 (some 25) (bl 22 0x3fff) ?_
      refine po 14 (some 26) (bl 22 0x7fff) ?_
      refine po 15 (some 27) (bl 22 0xffff) ?_
      refine po 16 (some 28) (bl 22 0x1ffff) ?_
      refine po 17 (some 29) (bl 22 0x3ffff) ?_
      refine po 18 (some 30) (bl 22 0x7ffff) ?_
      refine po 19 (some 31) (bl 22 0xfffff) ?_
      refine po 20 (some 32) (bl 22 0x1fffff) ?_
      refine pu 21 (some 33) (bl 22 0x3fffff) ?_
      refine done_ (by kernel_rfl) ?_
      go_wp2_with fail
      exact Go.Great.bodyPost_end0 rfl rfl ⟨rfl, FIN.out d.b.cut _ (by rw [if_neg (fun hh => absurd hh.1 (by have := K1.out; omega))]) HA_.out T0.out.drew.drew, T0.out.drew.drew⟩
    have k1b : decide (n < (d.b.sure.length : Int)) = true := decide_eq_true k1
    by_cases k2 : d.b.cut = -1
    case pos =>
      have k2b : (d.b.cut == -1) = true := by simpa using k2
      have k2c := Aside0.mk k2
      have K1 := Aside0.mk k1
      clear k2 k1
      go_wp2_with fail
      refine start_ (n := 22) (S := fun w' => w'.cell? ⟨g, 4, none⟩ = some (.slice A3 d.b.sure.length c3) ∧ w'.cell? ⟨g, 5, none⟩ = some (.int .i64 d.b.cut) ∧ w'.cell? ⟨q1, 0, none⟩ = some (.int .i64 n)) (ds := []) (bl 22 0x0) (by kernel_rfl) rfl (by kernel_rfl) ⟨q1_, q2_, Y1⟩ (fun hHeld => ?_)
      refine pu 1 (some 13) (bl 22 0x2) ?_
      refine pu 2 (some 14) (bl 22 0x6) ?_
      refine pu 3 (some 15) (bl 22 0xe) ?_
      refine tk 0 (some 12) (bl 22 0xf) hHeld ?_
      refine tk 4 (some 16) (bl 22 0x1f) hHeld ?_
      refine pu 5 (some 17) (bl 22 0x3f) ?_
      refine pu 6 (some 18) (bl 22 0x7f) ?_
      refine pu 7 (some 19) (bl 22 0xff) ?_
      refine pu 8 (some 20) (bl 22 0x1ff) ?_
      refine pu 9 (some 21) (bl 22 0x3ff) ?_
      refine pu 10 (some 22) (bl 22 0x7ff) ?_
      refine tk 11 (some 23) (bl 22 0xfff) hHeld ?_
      refine pu 12 (some 24) (bl 22 0x1fff) ?_
      refine pu 13 (some 25) (bl 22 0x3fff) ?_
      refine po 14 (some 26) (bl 22 0x7fff) ?_
      refine po 15 (some 27) (bl 22 0xffff) ?_
      refine po 16 (some 28) (bl 22 0x1ffff) ?_
      refine po 17 (some 29) (bl 22 0x3ffff) ?_
      refine po 18 (some 30) (bl 22 0x7ffff) ?_
      refine po 19 (some 31) (bl 22 0xfffff) ?_
      refine pu 20 (some 32) (bl 22 0x1fffff) ?_
      refine pu 21 (some 33) (bl 22 0x3fffff) ?_
      refine done_ (by kernel_rfl) ?_
      go_wp2_with fail
      have TT := (T0.out.set_own 5 (.int .i64 n)).drew.drew
      exact Go.Great.bodyPost_end0 rfl rfl ⟨rfl, FIN.out n _ (by rw [if_pos ⟨K1.out, .inl k2c.out⟩]) (HA_.out.set 5 (.int .i64 n)) TT, TT⟩
    have k2b : (d.b.cut == -1) = false := by simpa using k2
    have K2 := Aside0.mk k2
    have K1 := Aside0.mk k1
    clear k1 k2
    by_cases k3 : n < d.b.cut
    · have k3b : decide (n < d.b.cut) = true := decide_eq_true k3
      have K3 := Aside0.mk k3
      clear k3
      go_wp2_with fail
      refine start_ (n := 22) (S := fun w' => w'.cell? ⟨g, 4, none⟩ = some (.slice A3 d.b.sure.length c3) ∧ w'.cell? ⟨g, 5, none⟩ = some (.int .i64 d.b.cut) ∧ w'.cell? ⟨q1, 0, none⟩ = some (.int .i64 n)) (ds := []) (bl 22 0x0) (by kernel_rfl) rfl (by kernel_rfl) ⟨q1_, q2_, Y1⟩ (fun hHeld => ?_)
      refine pu 1 (some 13) (bl 22 0x2) ?_
      refine pu 2 (some 14) (bl 22 0x6) ?_
      refine pu 3 (some 15) (bl 22 0xe) ?_
      refine tk 0 (some 12) (bl 22 0xf) hHeld ?_
      refine tk 4 (some 16) (bl 22 0x1f) hHeld ?_
      refine pu 5 (some 17) (bl 22 0x3f) ?_
      refine pu 6 (some 18) (bl 22 0x7f) ?_
      refine pu 7 (some 19) (bl 22 0xff) ?_
      refine pu 8 (some 20) (bl 22 0x1ff) ?_
      refine pu 9 (some 21) (bl 22 0x3ff) ?_
      refine pu 10 (some 22) (bl 22 0x7ff) ?_
      refine tk 11 (some 23) (bl 22 0xfff) hHeld ?_
      refine pu 12 (some 24) (bl 22 0x1fff) ?_
      refine pu 13 (some 25) (bl 22 0x3fff) ?_
      refine pu 15 (some 27) (bl 22 0xbfff) ?_
      refine pu 16 (some 28) (bl 22 0x1bfff) ?_
      refine pu 17 (some 29) (bl 22 0x3bfff) ?_
      refine tk 14 (some 26) (bl 22 0x3ffff) hHeld ?_
      refine tk 18 (some 30) (bl 22 0x7ffff) hHeld ?_
      refine pu 19 (some 31) (bl 22 0xfffff) ?_
      refine pu 20 (some 32) (bl 22 0x1fffff) ?_
      refine pu 21 (some 33) (bl 22 0x3fffff) ?_
      refine done_ (by kernel_rfl) ?_
      go_wp2_with fail
      have TT := (T0.out.set_own 5 (.int .i64 n)).drew.drew
      exact Go.Great.bodyPost_end0 rfl rfl ⟨rfl, FIN.out n _ (by rw [if_pos ⟨K1.out, .inr K3.out⟩]) (HA_.out.set 5 (.int .i64 n)) TT, TT⟩
    · have k3b : decide (n < d.b.cut) = false := decide_eq_false k3
      have K3 := Aside0.mk k3
      clear k3
      go_wp2_with fail
      refine start_ (n := 22) (S := fun w' => w'.cell? ⟨g, 4, none⟩ = some (.slice A3 d.b.sure.length c3) ∧ w'.cell? ⟨g, 5, none⟩ = some (.int .i64 d.b.cut) ∧ w'.cell? ⟨q1, 0, none⟩ = some (.int .i64 n)) (ds := []) (bl 22 0x0) (by kernel_rfl) rfl (by kernel_rfl) ⟨q1_, q2_, Y1⟩ (fun hHeld => ?_)
      refine pu 1 (some 13) (bl 22 0x2) ?_
      refine pu 2 (some 14) (bl 22 0x6) ?_
      refine pu 3 (some 15) (bl 22 0xe) ?_
      refine tk 0 (some 12) (bl 22 0xf) hHeld ?_
      refine tk 4 (some 16) (bl 22 0x1f) hHeld ?_
      refine pu 5 (some 17) (bl 22 0x3f) ?_
      refine pu 6 (some 18) (bl 22 0x7f) ?_
      refine pu 7 (some 19) (bl 22 0xff) ?_
      refine pu 8 (some 20) (bl 22 0x1ff) ?_
      refine pu 9 (some 21) (bl 22 0x3ff) ?_
      refine pu 10 (some 22) (bl 22 0x7ff) ?_
      refine tk 11 (some 23) (bl 22 0xfff) hHeld ?_
      refine pu 12 (some 24) (bl 22 0x1fff) ?_
      refine pu 13 (some 25) (bl 22 0x3fff) ?_
      refine pu 15 (some 27) (bl 22 0xbfff) ?_
      refine pu 16 (some 28) (bl 22 0x1bfff) ?_
      refine pu 17 (some 29) (bl 22 0x3bfff) ?_
      refine tk 14 (some 26) (bl 22 0x3ffff) hHeld ?_
      refine tk 18 (some 30) (bl 22 0x7ffff) hHeld ?_
      refine pu 19 (some 31) (bl 22 0xfffff) ?_
      refine pu 20 (some 32) (bl 22 0x1fffff) ?_
      refine pu 21 (some 33) (bl 22 0x3fffff) ?_
      refine done_ (by kernel_rfl) ?_
      go_wp2_with fail
      exact Go.Great.bodyPost_end0 rfl rfl ⟨rfl, FIN.out d.b.cut _ (by rw [if_neg (fun hh => hh.2.elim K2.out (fun q => absurd q (by have := K3.out; omega)))]) HA_.out T0.out.drew.drew, T0.out.drew.drew⟩
theorem disk_Switch_1.calls {g : Nat} {ok : Nat → Prop} {d : D} {w : World} (h : At g ok d w) {q1 q2 : Nat} {n : Int} (y1 : w.cell? ⟨q1, 0, none⟩ = some (.int .i64 n)) (y2 : w.cell? ⟨q2, 0, none⟩ = some (.pointer (some ⟨g, 0, none⟩))) (v : Value) :
    Calls Try.prog 68 #[v, .pointer (some ⟨q1, 0, none⟩), .pointer (some ⟨q2, 0, none⟩)] w fun e w' => e = .returned (.tuple #[]) ∧ At g ok { d with root := n } w' ∧ Tn g w w' := by
  have H := Aside0.mk h
  obtain ⟨v0, v1, v2, v3, HA, V0, V1, V2, V3⟩ := h.ex
  have HN := Aside0.mk H.out.nok
  have x : w.cell? ⟨g, 6, none⟩ = some (.int .i64 d.root) := HA.cell 6
  have z : w.frozen? ⟨g, 6, none⟩ = false := HA.frozen 6
  have HA_ := Aside0.mk (HA.set 6 (.int .i64 n))
  have HV := Aside0.mk (And.intro V0 (And.intro V1 (And.intro V2 V3)))
  clear HA V0 V1 V2 V3 h
  go_enter Try.func68, Try.ntmps68
  go_wp2_with fail
  obtain ⟨V0, V1, V2, V3⟩ := HV.out
  have hn := HN.out
  have T := (Tn.refl g w).set_own 6 (.int .i64 n)
  exact Go.Great.bodyPost_end0 rfl rfl ⟨rfl, H.out.turn T HA_.out (V_tn V0 hn T) (V_tn V1 hn T) (V_tn V2 hn T) (V_tn V3 hn T), T⟩
theorem max_mx (k k' : IntKind) (x y : Int) : Builtin.max2 (.int k x) (.int k' y) = pure (.int k (mx x y)) := max2_int k k' x y
theorem min_mn (k k' : IntKind) (x y : Int) : Builtin.min2 (.int k x) (.int k' y) = pure (.int k (mn x y)) := min2_int k k' x y
/-- A file behind a loss. -/
def lostB (cut : Bool) (f : Fl) : List Int := if f.cut = -1 then f.sure else if cut = true then f.sure.take f.cut.toNat else f.sure
def lostT (keep : Int) (b : List Int) (f : Fl) : List Int := b ++ (f.now.drop b.length).take (mn (mx keep 0) ((f.now.drop b.length).length : Int)).toNat
def lost (keep : Int) (cut : Bool) (f : Fl) : Fl :=
  let b := if f.cut = -1 then lostT keep f.sure f else if cut = true then lostT keep (f.sure.take f.cut.toNat) f else f.sure
  ⟨b, b, -1⟩
theorem lost_none {f : Fl} {keep : Int} {cut : Bool} (k : f.cut = -1) : lost keep cut f = ⟨lostT keep f.sure f, lostT keep f.sure f, -1⟩ := by simp only [lost, if_pos k]
theorem lost_keep {f : Fl} {keep : Int} (k : f.cut ≠ -1) : lost keep false f = ⟨f.sure, f.sure, -1⟩ := by simp only [lost, if_neg k, Bool.false_eq_true, if_false]
theorem lost_cut {f : Fl} {keep : Int} (k : f.cut ≠ -1) : lost keep true f = ⟨lostT keep (f.sure.take f.cut.toNat) f, lostT keep (f.sure.take f.cut.toNat) f, -1⟩ := by simp only [lost, if_neg k, if_true]
/-- What a file's parts are. -/
structure FlOk (f : Fl) : Prop where
  now : f.now.length ≤ 1048576
  sure : f.sure.length ≤ 1048576
  cut : (f.cut = -1 ∧ f.sure <+: f.now) ∨ (0 ≤ f.cut ∧ f.cut < f.sure.length ∧ f.sure.take f.cut.toNat <+: f.now)
theorem FlOk.none {f : Fl} (h : FlOk f) (k : f.cut = -1) : f.sure <+: f.now := by
  rcases h.cut with hc | hc
  · exact hc.2
  · have := hc.1
    omega
theorem FlOk.some {f : Fl} (h : FlOk f) (k : f.cut ≠ -1) : 0 ≤ f.cut ∧ f.cut < f.sure.length ∧ f.sure.take f.cut.toNat <+: f.now := by
  rcases h.cut with hc | hc
  · exact absurd hc.1 k
  · exact hc
theorem fin_lose {g : Nat} {ok : Nat → Prop} {d : D} {w W : World} (i : Bool) (h : At g ok d w) {v : Value} {zs : List Int} (hv : Vb ok W v zs) (hT : Tn g w W) (hA : ∃ v0 v1 v2 v3, Blk.At g (cells v0 v1 v2 v3 (d.put i ⟨zs, zs, -1⟩)) 93 W ∧ (match i with | false => v0 = v ∧ v1 = v ∧ Vb ok w v2 d.b.now ∧ Vb ok w v3 d.b.sure | true => v2 = v ∧ v3 = v ∧ Vb ok w v0 d.a.now ∧ Vb ok w v1 d.a.sure)) : At g ok (d.put i ⟨zs, zs, -1⟩) W := by
  obtain ⟨v0, v1, v2, v3, hB, hm⟩ := hA
  have hn := h.nok
  cases i
  · obtain ⟨rfl, rfl, V2, V3⟩ := hm
    exact h.turn hT hB hv hv (V_tn V2 hn hT) (V_tn V3 hn hT)
  · obtain ⟨rfl, rfl, V0, V1⟩ := hm
    exact h.turn hT hB (V_tn V0 hn hT) (V_tn V1 hn hT) hv hv
section
attribute [-go_sem] max2_int min2_int
attribute [local go_sem] max_mx min_mn
set_option maxHeartbeats 4000000 in
set_option maxRecDepth 100000 in
theorem file_lose.calls {g : Nat} {ok : Nat → Prop} {d : D} {w : World} (h : At g ok d w) (i : Bool) (keep : Int) (cut : Bool) (hf : FlOk (d.fl i)) :
    Calls Try.prog 49 #[fo g i, .int .i64 keep, .bool cut] w fun e w' => e = .returned (.tuple #[]) ∧ At g ok (d.put i (lost keep cut (d.fl i))) w' ∧ Tn g w w' := by
  have H := Aside0.mk h
  obtain ⟨v0, v1, v2, v3, HA, V0, V1, V2, V3⟩ := h.ex
  obtain ⟨A0, c0, rfl⟩ := Kd.V_slice V0
  obtain ⟨A1, c1, rfl⟩ := Kd.V_slice V1
  obtain ⟨A2, c2, rfl⟩ := Kd.V_slice V2
  obtain ⟨A3, c3, rfl⟩ := Kd.V_slice V3
  have HN := Aside0.mk H.out.nok
  have HF := Aside0.mk hf
  have HV := Aside0.mk (And.intro V0 (And.intro V1 (And.intro V2 V3)))
  cases i
  · simp only [fo]
    have hf : FlOk d.a := hf
    have hl : d.a.sure.length ≤ 140737488355328 := by have := hf.sure; omega
    have HA0 := Aside0.mk HA
    have x1 : w.cell? ⟨g, 1, none⟩ = some (.slice A1 d.a.sure.length c1) := HA.cell 1
    have X0 := Aside0.mk (show w.cell? ⟨g, 0, none⟩ = some (.slice A0 d.a.now.length c0) from HA.cell 0)
    have X2 := Aside0.mk (show w.cell? ⟨g, 2, none⟩ = some (.int .i64 d.a.cut) from HA.cell 2)
    have VS := Aside0.mk V1
    clear HA V0 V1 V2 V3 h hf
    by_cases k1 : d.a.cut = -1
    case pos =>
      have k1a : (d.a.cut != -1) = false := by simp [k1]
      have k1b : (d.a.cut == -1) = true := by simp [k1]
      have K1 := Aside0.mk k1
      clear k1
      go_enter Try.func49, Try.ntmps49
      go_wp2_with fail
      refine (bytes_Clone.calls VS.out hl).mono ?_
      rintro e w1 ⟨vc, rfl, ho, hb⟩
      obtain ⟨Ac, cc, rfl⟩ := Kd.R_slice ho
      have HO := Aside0.mk ho
      have HB := Aside0.mk hb
      have HA1 := Aside0.mk (HA0.out.below hb H.out.lt)
      have y0 : w1.cell? ⟨g, 0, none⟩ = some (.slice A0 d.a.now.length c0) := HA1.out.cell 0
      have y1 : w1.cell? ⟨g, 1, none⟩ = some (.slice A1 d.a.sure.length c1) := HA1.out.cell 1
      have y2 : w1.cell? ⟨g, 2, none⟩ = some (.int .i64 d.a.cut) := HA1.out.cell 2
      have z0 : w1.frozen? ⟨g, 0, none⟩ = false := HA1.out.frozen 0
      have z1 : w1.frozen? ⟨g, 1, none⟩ = false := HA1.out.frozen 1
      have z2 : w1.frozen? ⟨g, 2, none⟩ = false := HA1.out.frozen 2
      clear ho hb x1
      obtain ⟨bs, hbs⟩ : ∃ bs, bs = d.a.sure := ⟨_, rfl⟩
      have HBS := Aside0.mk hbs
      have HOB := Aside0.mk (show Rb w.heap.size w1 (.slice Ac bs.length cc) bs from by rw [hbs]; exact HO.out)
      have HBL := Aside0.mk (show bs.length ≤ d.a.now.length from by rw [hbs]; exact (HF.out.none K1.out).length_le)
      rw [← hbs]
      clear hbs
      have hbl : bs.length ≤ d.a.now.length := HBL.out
      obtain ⟨At_, hcut, hVt⟩ := V_cut (w := w1) (Kd.V_below HV.out.1 HB.out) (m := (bs.length : Int)) (by omega) (by omega)
      rw [Int.toNat_natCast] at hcut hVt
      obtain ⟨ts, hts⟩ : ∃ ts, ts = d.a.now.drop bs.length := ⟨_, rfl⟩
      rw [← hts] at hcut hVt
      obtain ⟨K, hK⟩ : ∃ K, K = mn (mx keep 0) (ts.length : Int) := ⟨_, rfl⟩
      have hK0 : 0 ≤ K ∧ K ≤ ts.length := by rw [hK]; unfold mn mx; split <;> split <;> omega
      have hKe := hK.symm
      have htk := fun W => take23 (A := At_) (c := c0 - bs.length) (xs := ts) hK0.1 hK0.2 (Kd.V_at hVt).2.1 W
      have hVk := V_take hVt (m := K.toNat) (by omega)
      obtain ⟨us, hus⟩ : ∃ us, us = ts.take K.toNat := ⟨_, rfl⟩
      rw [← hus] at htk hVk
      have hul : us.length ≤ 1048576 := by rw [hus, List.length_take, hts, List.length_drop]; have := HF.out.now; have h2 : (d.fl false).now.length = d.a.now.length := rfl; omega
      have hbl2 : bs.length ≤ 1048576 := by have := HF.out.now; have h2 : (d.fl false).now.length = d.a.now.length := rfl; omega
      have HT := Aside0.mk (And.intro hts (And.intro hK hus))
      have HU := Aside0.mk (And.intro hul hbl2)
      have HVK := Aside0.mk hVk
      clear hts hK hus hVt hVk hul hbl2 hbl hK0
      go_wp2_with (at_builtin; refine Kd.R_append_row (Value.int .u8) 0 (w0 := w) w.heap.size rfl _ _ 22 5 (.int .u8 0) 1 rfl Try.underlying22 info5 rfl (by decide) (.slice Ac bs.length cc) bs us At_ us.length (c0 - bs.length) (fun _ => True) rfl rfl (fun _ _ => trivial) HOB.out (Kd.V_reads' HVK.out).2.2 HB.out HB.out.size (by have := HU.out; omega) ?_; intro v1 w2 ho hb hg hat; (obtain ⟨zs, hz⟩ : ∃ zs, zs = bs ++ us := ⟨_, rfl⟩); rw [← hz] at ho; obtain ⟨Az, cz, rfl⟩ := Kd.R_slice ho; have HO2 := Aside0.mk ho; have HB2 := Aside0.mk hb; have HZ := Aside0.mk hz; clear ho hb hg hat hz; have HA2 := Aside0.mk (HA0.out.below HB2.out H.out.lt); have zz0 : w2.frozen? ⟨g, 0, none⟩ = false := HA2.out.frozen 0; have zz1 : w2.frozen? ⟨g, 1, none⟩ = false := HA2.out.frozen 1; have zz2 : w2.frozen? ⟨g, 2, none⟩ = false := HA2.out.frozen 2; have yy0 : w2.cell? ⟨g, 0, none⟩ = some (.slice A0 d.a.now.length c0) := HA2.out.cell 0; have yy1 : w2.cell? ⟨g, 1, none⟩ = some (.slice A1 d.a.sure.length c1) := HA2.out.cell 1; have yy2 : w2.cell? ⟨g, 2, none⟩ = some (.int .i64 d.a.cut) := HA2.out.cell 2)
      go_wp2_with fail
      have T := (((Tn.of_below (g := g) HB2.out).set_own 0 (.slice Az zs.length cz)).set_own 1 (.slice Az zs.length cz)).set_own 2 (.int .i64 (-1))
      have TW := ((((Tn.refl g w2).set_own 0 (.slice Az zs.length cz)).set_own 1 (.slice Az zs.length cz)).set_own 2 (.int .i64 (-1)))
      refine Go.Great.bodyPost_end0 rfl rfl ⟨rfl, ?_, T⟩
      rw [show lost keep cut (d.fl false) = ⟨zs, zs, -1⟩ from (lost_none (f := d.fl false) K1.out).trans (by rw [show lostT keep (d.fl false).sure (d.fl false) = zs from by have hz := HZ.out; obtain ⟨h1, h2, h3⟩ := HT.out; have hb := HBS.out; subst hz h3 h2 h1 hb; rfl])]
      exact fin_lose false H.out (V_tn (V_own HO2.out H.out.fresh) HN.out TW) T ⟨(.slice Az zs.length cz), (.slice Az zs.length cz), (.slice A2 d.b.now.length c2), (.slice A3 d.b.sure.length c3), (((HA2.out).set 0 _).set 1 _).set 2 _, rfl, rfl, HV.out.2.2.1, HV.out.2.2.2⟩
    have k1a : (d.a.cut != -1) = true := by simpa using k1
    have k1b : (d.a.cut == -1) = false := by simpa using k1
    have K1 := Aside0.mk k1
    have KC := Aside0.mk (show 0 ≤ d.a.cut ∧ d.a.cut < d.a.sure.length ∧ d.a.sure.take d.a.cut.toNat <+: d.a.now from HF.out.some k1)
    clear k1
    cases cut
    · skip
      go_enter Try.func49, Try.ntmps49
      go_wp2_with fail
      refine (bytes_Clone.calls VS.out hl).mono ?_
      rintro e w1 ⟨vc, rfl, ho, hb⟩
      obtain ⟨Ac, cc, rfl⟩ := Kd.R_slice ho
      have HO := Aside0.mk ho
      have HB := Aside0.mk hb
      have HA1 := Aside0.mk (HA0.out.below hb H.out.lt)
      have y0 : w1.cell? ⟨g, 0, none⟩ = some (.slice A0 d.a.now.length c0) := HA1.out.cell 0
      have y1 : w1.cell? ⟨g, 1, none⟩ = some (.slice A1 d.a.sure.length c1) := HA1.out.cell 1
      have y2 : w1.cell? ⟨g, 2, none⟩ = some (.int .i64 d.a.cut) := HA1.out.cell 2
      have z0 : w1.frozen? ⟨g, 0, none⟩ = false := HA1.out.frozen 0
      have z1 : w1.frozen? ⟨g, 1, none⟩ = false := HA1.out.frozen 1
      have z2 : w1.frozen? ⟨g, 2, none⟩ = false := HA1.out.frozen 2
      clear ho hb x1
      go_wp2_with fail
      have T := (((Tn.of_below (g := g) HB.out).set_own 0 (.slice Ac d.a.sure.length cc)).set_own 1 (.slice Ac d.a.sure.length cc)).set_own 2 (.int .i64 (-1))
      have TW := ((((Tn.refl g w1).set_own 0 (.slice Ac d.a.sure.length cc)).set_own 1 (.slice Ac d.a.sure.length cc)).set_own 2 (.int .i64 (-1)))
      refine Go.Great.bodyPost_end0 rfl rfl ⟨rfl, ?_, T⟩
      rw [show lost keep false (d.fl false) = ⟨d.a.sure, d.a.sure, -1⟩ from lost_keep (f := d.fl false) K1.out]
      exact fin_lose false H.out (V_tn (V_own HO.out H.out.fresh) HN.out TW) T ⟨(.slice Ac d.a.sure.length cc), (.slice Ac d.a.sure.length cc), (.slice A2 d.b.now.length c2), (.slice A3 d.b.sure.length c3), (((HA1.out).set 0 _).set 1 _).set 2 _, rfl, rfl, HV.out.2.2.1, HV.out.2.2.2⟩
    · skip
      go_enter Try.func49, Try.ntmps49
      go_wp2_with fail
      refine (bytes_Clone.calls VS.out hl).mono ?_
      rintro e w1 ⟨vc, rfl, ho, hb⟩
      obtain ⟨Ac, cc, rfl⟩ := Kd.R_slice ho
      have HO := Aside0.mk ho
      have HB := Aside0.mk hb
      have HA1 := Aside0.mk (HA0.out.below hb H.out.lt)
      have y0 : w1.cell? ⟨g, 0, none⟩ = some (.slice A0 d.a.now.length c0) := HA1.out.cell 0
      have y1 : w1.cell? ⟨g, 1, none⟩ = some (.slice A1 d.a.sure.length c1) := HA1.out.cell 1
      have y2 : w1.cell? ⟨g, 2, none⟩ = some (.int .i64 d.a.cut) := HA1.out.cell 2
      have z0 : w1.frozen? ⟨g, 0, none⟩ = false := HA1.out.frozen 0
      have z1 : w1.frozen? ⟨g, 1, none⟩ = false := HA1.out.frozen 1
      have z2 : w1.frozen? ⟨g, 2, none⟩ = false := HA1.out.frozen 2
      clear ho hb x1
      obtain ⟨k0, kl, kp⟩ := KC.out
      have hst := fun W => take23 (A := Ac) (c := cc) (xs := d.a.sure) k0 (by omega) (Kd.R_reads' HO.out).2.1 W
      obtain ⟨bs, hbs⟩ : ∃ bs, bs = d.a.sure.take d.a.cut.toNat := ⟨_, rfl⟩
      have HBS := Aside0.mk hbs
      have HBL := Aside0.mk (show bs.length ≤ d.a.now.length from by rw [hbs]; exact kp.length_le)
      have ho := Kd.R_take HO.out (m := d.a.cut.toNat) (by omega)
      have hbl_ : bs.length = d.a.cut.toNat := by rw [hbs, List.length_take]; omega
      rw [← hbs] at hst ho
      rw [← hbl_] at ho
      have HOB := Aside0.mk ho
      clear hbs ho hbl_ k0 kl kp
      have hbl : bs.length ≤ d.a.now.length := HBL.out
      obtain ⟨At_, hcut, hVt⟩ := V_cut (w := w1) (Kd.V_below HV.out.1 HB.out) (m := (bs.length : Int)) (by omega) (by omega)
      rw [Int.toNat_natCast] at hcut hVt
      obtain ⟨ts, hts⟩ : ∃ ts, ts = d.a.now.drop bs.length := ⟨_, rfl⟩
      rw [← hts] at hcut hVt
      obtain ⟨K, hK⟩ : ∃ K, K = mn (mx keep 0) (ts.length : Int) := ⟨_, rfl⟩
      have hK0 : 0 ≤ K ∧ K ≤ ts.length := by rw [hK]; unfold mn mx; split <;> split <;> omega
      have hKe := hK.symm
      have htk := fun W => take23 (A := At_) (c := c0 - bs.length) (xs := ts) hK0.1 hK0.2 (Kd.V_at hVt).2.1 W
      have hVk := V_take hVt (m := K.toNat) (by omega)
      obtain ⟨us, hus⟩ : ∃ us, us = ts.take K.toNat := ⟨_, rfl⟩
      rw [← hus] at htk hVk
      have hul : us.length ≤ 1048576 := by rw [hus, List.length_take, hts, List.length_drop]; have := HF.out.now; have h2 : (d.fl false).now.length = d.a.now.length := rfl; omega
      have hbl2 : bs.length ≤ 1048576 := by have := HF.out.now; have h2 : (d.fl false).now.length = d.a.now.length := rfl; omega
      have HT := Aside0.mk (And.intro hts (And.intro hK hus))
      have HU := Aside0.mk (And.intro hul hbl2)
      have HVK := Aside0.mk hVk
      clear hts hK hus hVt hVk hul hbl2 hbl hK0
      go_wp2_with (at_builtin; refine Kd.R_append_row (Value.int .u8) 0 (w0 := w) w.heap.size rfl _ _ 22 5 (.int .u8 0) 1 rfl Try.underlying22 info5 rfl (by decide) (.slice Ac bs.length cc) bs us At_ us.length (c0 - bs.length) (fun _ => True) rfl rfl (fun _ _ => trivial) HOB.out (Kd.V_reads' HVK.out).2.2 HB.out HB.out.size (by have := HU.out; omega) ?_; intro v1 w2 ho hb hg hat; (obtain ⟨zs, hz⟩ : ∃ zs, zs = bs ++ us := ⟨_, rfl⟩); rw [← hz] at ho; obtain ⟨Az, cz, rfl⟩ := Kd.R_slice ho; have HO2 := Aside0.mk ho; have HB2 := Aside0.mk hb; have HZ := Aside0.mk hz; clear ho hb hg hat hz; have HA2 := Aside0.mk (HA0.out.below HB2.out H.out.lt); have zz0 : w2.frozen? ⟨g, 0, none⟩ = false := HA2.out.frozen 0; have zz1 : w2.frozen? ⟨g, 1, none⟩ = false := HA2.out.frozen 1; have zz2 : w2.frozen? ⟨g, 2, none⟩ = false := HA2.out.frozen 2; have yy0 : w2.cell? ⟨g, 0, none⟩ = some (.slice A0 d.a.now.length c0) := HA2.out.cell 0; have yy1 : w2.cell? ⟨g, 1, none⟩ = some (.slice A1 d.a.sure.length c1) := HA2.out.cell 1; have yy2 : w2.cell? ⟨g, 2, none⟩ = some (.int .i64 d.a.cut) := HA2.out.cell 2)
      go_wp2_with fail
      have T := (((Tn.of_below (g := g) HB2.out).set_own 0 (.slice Az zs.length cz)).set_own 1 (.slice Az zs.length cz)).set_own 2 (.int .i64 (-1))
      have TW := ((((Tn.refl g w2).set_own 0 (.slice Az zs.length cz)).set_own 1 (.slice Az zs.length cz)).set_own 2 (.int .i64 (-1)))
      refine Go.Great.bodyPost_end0 rfl rfl ⟨rfl, ?_, T⟩
      rw [show lost keep true (d.fl false) = ⟨zs, zs, -1⟩ from (lost_cut (f := d.fl false) K1.out).trans (by rw [show lostT keep ((d.fl false).sure.take (d.fl false).cut.toNat) (d.fl false) = zs from by have hz := HZ.out; obtain ⟨h1, h2, h3⟩ := HT.out; have hb := HBS.out; subst hz h3 h2 h1 hb; rfl])]
      exact fin_lose false H.out (V_tn (V_own HO2.out H.out.fresh) HN.out TW) T ⟨(.slice Az zs.length cz), (.slice Az zs.length cz), (.slice A2 d.b.now.length c2), (.slice A3 d.b.sure.length c3), (((HA2.out).set 0 _).set 1 _).set 2 _, rfl, rfl, HV.out.2.2.1, HV.out.2.2.2⟩
  · simp only [fo]
    have hf : FlOk d.b := hf
    have hl : d.b.sure.length ≤ 140737488355328 := by have := hf.sure; omega
    have HA0 := Aside0.mk HA
    have x1 : w.cell? ⟨g, 4, none⟩ = some (.slice A3 d.b.sure.length c3) := HA.cell 4
    have X0 := Aside0.mk (show w.cell? ⟨g, 3, none⟩ = some (.slice A2 d.b.now.length c2) from HA.cell 3)
    have X2 := Aside0.mk (show w.cell? ⟨g, 5, none⟩ = some (.int .i64 d.b.cut) from HA.cell 5)
    have VS := Aside0.mk V3
    clear HA V0 V1 V2 V3 h hf
    by_cases k1 : d.b.cut = -1
    case pos =>
      have k1a : (d.b.cut != -1) = false := by simp [k1]
      have k1b : (d.b.cut == -1) = true := by simp [k1]
      have K1 := Aside0.mk k1
      clear k1
      go_enter Try.func49, Try.ntmps49
      go_wp2_with fail
      refine (bytes_Clone.calls VS.out hl).mono ?_
      rintro e w1 ⟨vc, rfl, ho, hb⟩
      obtain ⟨Ac, cc, rfl⟩ := Kd.R_slice ho
      have HO := Aside0.mk ho
      have HB := Aside0.mk hb
      have HA1 := Aside0.mk (HA0.out.below hb H.out.lt)
      have y0 : w1.cell? ⟨g, 3, none⟩ = some (.slice A2 d.b.now.length c2) := HA1.out.cell 3
      have y1 : w1.cell? ⟨g, 4, none⟩ = some (.slice A3 d.b.sure.length c3) := HA1.out.cell 4
      have y2 : w1.cell? ⟨g, 5, none⟩ = some (.int .i64 d.b.cut) := HA1.out.cell 5
      have z0 : w1.frozen? ⟨g, 3, none⟩ = false := HA1.out.frozen 3
      have z1 : w1.frozen? ⟨g, 4, none⟩ = false := HA1.out.frozen 4
      have z2 : w1.frozen? ⟨g, 5, none⟩ = false := HA1.out.frozen 5
      clear ho hb x1
      obtain ⟨bs, hbs⟩ : ∃ bs, bs = d.b.sure := ⟨_, rfl⟩
      have HBS := Aside0.mk hbs
      have HOB := Aside0.mk (show Rb w.heap.size w1 (.slice Ac bs.length cc) bs from by rw [hbs]; exact HO.out)
      have HBL := Aside0.mk (show bs.length ≤ d.b.now.length from by rw [hbs]; exact (HF.out.none K1.out).length_le)
      rw [← hbs]
      clear hbs
      have hbl : bs.length ≤ d.b.now.length := HBL.out
      obtain ⟨At_, hcut, hVt⟩ := V_cut (w := w1) (Kd.V_below HV.out.2.2.1 HB.out) (m := (bs.length : Int)) (by omega) (by omega)
      rw [Int.toNat_natCast] at hcut hVt
      obtain ⟨ts, hts⟩ : ∃ ts, ts = d.b.now.drop bs.length := ⟨_, rfl⟩
      rw [← hts] at hcut hVt
      obtain ⟨K, hK⟩ : ∃ K, K = mn (mx keep 0) (ts.length : Int) := ⟨_, rfl⟩
      have hK0 : 0 ≤ K ∧ K ≤ ts.length := by rw [hK]; unfold mn mx; split <;> split <;> omega
      have hKe := hK.symm
      have htk := fun W => take23 (A := At_) (c := c2 - bs.length) (xs := ts) hK0.1 hK0.2 (Kd.V_at hVt).2.1 W
      have hVk := V_take hVt (m := K.toNat) (by omega)
      obtain ⟨us, hus⟩ : ∃ us, us = ts.take K.toNat := ⟨_, rfl⟩
      rw [← hus] at htk hVk
      have hul : us.length ≤ 1048576 := by rw [hus, List.length_take, hts, List.length_drop]; have := HF.out.now; have h2 : (d.fl true).now.length = d.b.now.length := rfl; omega
      have hbl2 : bs.length ≤ 1048576 := by have := HF.out.now; have h2 : (d.fl true).now.length = d.b.now.length := rfl; omega
      have HT := Aside0.mk (And.intro hts (And.intro hK hus))
      have HU := Aside0.mk (And.intro hul hbl2)
      have HVK := Aside0.mk hVk
      clear hts hK hus hVt hVk hul hbl2 hbl hK0
      go_wp2_with (at_builtin; refine Kd.R_append_row (Value.int .u8) 0 (w0 := w) w.heap.size rfl _ _ 22 5 (.int .u8 0) 1 rfl Try.underlying22 info5 rfl (by decide) (.slice Ac bs.length cc) bs us At_ us.length (c2 - bs.length) (fun _ => True) rfl rfl (fun _ _ => trivial) HOB.out (Kd.V_reads' HVK.out).2.2 HB.out HB.out.size (by have := HU.out; omega) ?_; intro v1 w2 ho hb hg hat; (obtain ⟨zs, hz⟩ : ∃ zs, zs = bs ++ us := ⟨_, rfl⟩); rw [← hz] at ho; obtain ⟨Az, cz, rfl⟩ := Kd.R_slice ho; have HO2 := Aside0.mk ho; have HB2 := Aside0.mk hb; have HZ := Aside0.mk hz; clear ho hb hg hat hz; have HA2 := Aside0.mk (HA0.out.below HB2.out H.out.lt); have zz0 : w2.frozen? ⟨g, 3, none⟩ = false := HA2.out.frozen 3; have zz1 : w2.frozen? ⟨g, 4, none⟩ = false := HA2.out.frozen 4; have zz2 : w2.frozen? ⟨g, 5, none⟩ = false := HA2.out.frozen 5; have yy0 : w2.cell? ⟨g, 3, none⟩ = some (.slice A2 d.b.now.length c2) := HA2.out.cell 3; have yy1 : w2.cell? ⟨g, 4, none⟩ = some (.slice A3 d.b.sure.length c3) := HA2.out.cell 4; have yy2 : w2.cell? ⟨g, 5, none⟩ = some (.int .i64 d.b.cut) := HA2.out.cell 5)
      go_wp2_with fail
      have T := (((Tn.of_below (g := g) HB2.out).set_own 3 (.slice Az zs.length cz)).set_own 4 (.slice Az zs.length cz)).set_own 5 (.int .i64 (-1))
      have TW := ((((Tn.refl g w2).set_own 3 (.slice Az zs.length cz)).set_own 4 (.slice Az zs.length cz)).set_own 5 (.int .i64 (-1)))
      refine Go.Great.bodyPost_end0 rfl rfl ⟨rfl, ?_, T⟩
      rw [show lost keep cut (d.fl true) = ⟨zs, zs, -1⟩ from (lost_none (f := d.fl true) K1.out).trans (by rw [show lostT keep (d.fl true).sure (d.fl true) = zs from by have hz := HZ.out; obtain ⟨h1, h2, h3⟩ := HT.out; have hb := HBS.out; subst hz h3 h2 h1 hb; rfl])]
      exact fin_lose true H.out (V_tn (V_own HO2.out H.out.fresh) HN.out TW) T ⟨(.slice A0 d.a.now.length c0), (.slice A1 d.a.sure.length c1), (.slice Az zs.length cz), (.slice Az zs.length cz), (((HA2.out).set 3 _).set 4 _).set 5 _, rfl, rfl, HV.out.1, HV.out.2.1⟩
    have k1a : (d.b.cut != -1) = true := by simpa using k1
    have k1b : (d.b.cut == -1) = false := by simpa using k1
    have K1 := Aside0.mk k1
    have KC := Aside0.mk (show 0 ≤ d.b.cut ∧ d.b.cut < d.b.sure.length ∧ d.b.sure.take d.b.cut.toNat <+: d.b.now from HF.out.some k1)
    clear k1
    cases cut
    · skip
      go_enter Try.func49, Try.ntmps49
      go_wp2_with fail
      refine (bytes_Clone.calls VS.out hl).mono ?_
      rintro e w1 ⟨vc, rfl, ho, hb⟩
      obtain ⟨Ac, cc, rfl⟩ := Kd.R_slice ho
      have HO := Aside0.mk ho
      have HB := Aside0.mk hb
      have HA1 := Aside0.mk (HA0.out.below hb H.out.lt)
      have y0 : w1.cell? ⟨g, 3, none⟩ = some (.slice A2 d.b.now.length c2) := HA1.out.cell 3
      have y1 : w1.cell? ⟨g, 4, none⟩ = some (.slice A3 d.b.sure.length c3) := HA1.out.cell 4
      have y2 : w1.cell? ⟨g, 5, none⟩ = some (.int .i64 d.b.cut) := HA1.out.cell 5
      have z0 : w1.frozen? ⟨g, 3, none⟩ = false := HA1.out.frozen 3
      have z1 : w1.frozen? ⟨g, 4, none⟩ = false := HA1.out.frozen 4
      have z2 : w1.frozen? ⟨g, 5, none⟩ = false := HA1.out.frozen 5
      clear ho hb x1
      go_wp2_with fail
      have T := (((Tn.of_below (g := g) HB.out).set_own 3 (.slice Ac d.b.sure.length cc)).set_own 4 (.slice Ac d.b.sure.length cc)).set_own 5 (.int .i64 (-1))
      have TW := ((((Tn.refl g w1).set_own 3 (.slice Ac d.b.sure.length cc)).set_own 4 (.slice Ac d.b.sure.length cc)).set_own 5 (.int .i64 (-1)))
      refine Go.Great.bodyPost_end0 rfl rfl ⟨rfl, ?_, T⟩
      rw [show lost keep false (d.fl true) = ⟨d.b.sure, d.b.sure, -1⟩ from lost_keep (f := d.fl true) K1.out]
      exact fin_lose true H.out (V_tn (V_own HO.out H.out.fresh) HN.out TW) T ⟨(.slice A0 d.a.now.length c0), (.slice A1 d.a.sure.length c1), (.slice Ac d.b.sure.length cc), (.slice Ac d.b.sure.length cc), (((HA1.out).set 3 _).set 4 _).set 5 _, rfl, rfl, HV.out.1, HV.out.2.1⟩
    · skip
      go_enter Try.func49, Try.ntmps49
      go_wp2_with fail
      refine (bytes_Clone.calls VS.out hl).mono ?_
      rintro e w1 ⟨vc, rfl, ho, hb⟩
      obtain ⟨Ac, cc, rfl⟩ := Kd.R_slice ho
      have HO := Aside0.mk ho
      have HB := Aside0.mk hb
      have HA1 := Aside0.mk (HA0.out.below hb H.out.lt)
      have y0 : w1.cell? ⟨g, 3, none⟩ = some (.slice A2 d.b.now.length c2) := HA1.out.cell 3
      have y1 : w1.cell? ⟨g, 4, none⟩ = some (.slice A3 d.b.sure.length c3) := HA1.out.cell 4
      have y2 : w1.cell? ⟨g, 5, none⟩ = some (.int .i64 d.b.cut) := HA1.out.cell 5
      have z0 : w1.frozen? ⟨g, 3, none⟩ = false := HA1.out.frozen 3
      have z1 : w1.frozen? ⟨g, 4, none⟩ = false := HA1.out.frozen 4
      have z2 : w1.frozen? ⟨g, 5, none⟩ = false := HA1.out.frozen 5
      clear ho hb x1
      obtain ⟨k0, kl, kp⟩ := KC.out
      have hst := fun W => take23 (A := Ac) (c := cc) (xs := d.b.sure) k0 (by omega) (Kd.R_reads' HO.out).2.1 W
      obtain ⟨bs, hbs⟩ : ∃ bs, bs = d.b.sure.take d.b.cut.toNat := ⟨_, rfl⟩
      have HBS := Aside0.mk hbs
      have HBL := Aside0.mk (show bs.length ≤ d.b.now.length from by rw [hbs]; exact kp.length_le)
      have ho := Kd.R_take HO.out (m := d.b.cut.toNat) (by omega)
      have hbl_ : bs.length = d.b.cut.toNat := by rw [hbs, List.length_take]; omega
      rw [← hbs] at hst ho
      rw [← hbl_] at ho
      have HOB := Aside0.mk ho
      clear hbs ho hbl_ k0 kl kp
      have hbl : bs.length ≤ d.b.now.length := HBL.out
      obtain ⟨At_, hcut, hVt⟩ := V_cut (w := w1) (Kd.V_below HV.out.2.2.1 HB.out) (m := (bs.length : Int)) (by omega) (by omega)
      rw [Int.toNat_natCast] at hcut hVt
      obtain ⟨ts, hts⟩ : ∃ ts, ts = d.b.now.drop bs.length := ⟨_, rfl⟩
      rw [← hts] at hcut hVt
      obtain ⟨K, hK⟩ : ∃ K, K = mn (mx keep 0) (ts.length : Int) := ⟨_, rfl⟩
      have hK0 : 0 ≤ K ∧ K ≤ ts.length := by rw [hK]; unfold mn mx; split <;> split <;> omega
      have hKe := hK.symm
      have htk := fun W => take23 (A := At_) (c := c2 - bs.length) (xs := ts) hK0.1 hK0.2 (Kd.V_at hVt).2.1 W
      have hVk := V_take hVt (m := K.toNat) (by omega)
      obtain ⟨us, hus⟩ : ∃ us, us = ts.take K.toNat := ⟨_, rfl⟩
      rw [← hus] at htk hVk
      have hul : us.length ≤ 1048576 := by rw [hus, List.length_take, hts, List.length_drop]; have := HF.out.now; have h2 : (d.fl true).now.length = d.b.now.length := rfl; omega
      have hbl2 : bs.length ≤ 1048576 := by have := HF.out.now; have h2 : (d.fl true).now.length = d.b.now.length := rfl; omega
      have HT := Aside0.mk (And.intro hts (And.intro hK hus))
      have HU := Aside0.mk (And.intro hul hbl2)
      have HVK := Aside0.mk hVk
      clear hts hK hus hVt hVk hul hbl2 hbl hK0
      go_wp2_with (at_builtin; refine Kd.R_append_row (Value.int .u8) 0 (w0 := w) w.heap.size rfl _ _ 22 5 (.int .u8 0) 1 rfl Try.underlying22 info5 rfl (by decide) (.slice Ac bs.length cc) bs us At_ us.length (c2 - bs.length) (fun _ => True) rfl rfl (fun _ _ => trivial) HOB.out (Kd.V_reads' HVK.out).2.2 HB.out HB.out.size (by have := HU.out; omega) ?_; intro v1 w2 ho hb hg hat; (obtain ⟨zs, hz⟩ : ∃ zs, zs = bs ++ us := ⟨_, rfl⟩); rw [← hz] at ho; obtain ⟨Az, cz, rfl⟩ := Kd.R_slice ho; have HO2 := Aside0.mk ho; have HB2 := Aside0.mk hb; have HZ := Aside0.mk hz; clear ho hb hg hat hz; have HA2 := Aside0.mk (HA0.out.below HB2.out H.out.lt); have zz0 : w2.frozen? ⟨g, 3, none⟩ = false := HA2.out.frozen 3; have zz1 : w2.frozen? ⟨g, 4, none⟩ = false := HA2.out.frozen 4; have zz2 : w2.frozen? ⟨g, 5, none⟩ = false := HA2.out.frozen 5; have yy0 : w2.cell? ⟨g, 3, none⟩ = some (.slice A2 d.b.now.length c2) := HA2.out.cell 3; have yy1 : w2.cell? ⟨g, 4, none⟩ = some (.slice A3 d.b.sure.length c3) := HA2.out.cell 4; have yy2 : w2.cell? ⟨g, 5, none⟩ = some (.int .i64 d.b.cut) := HA2.out.cell 5)
      go_wp2_with fail
      have T := (((Tn.of_below (g := g) HB2.out).set_own 3 (.slice Az zs.length cz)).set_own 4 (.slice Az zs.length cz)).set_own 5 (.int .i64 (-1))
      have TW := ((((Tn.refl g w2).set_own 3 (.slice Az zs.length cz)).set_own 4 (.slice Az zs.length cz)).set_own 5 (.int .i64 (-1)))
      refine Go.Great.bodyPost_end0 rfl rfl ⟨rfl, ?_, T⟩
      rw [show lost keep true (d.fl true) = ⟨zs, zs, -1⟩ from (lost_cut (f := d.fl true) K1.out).trans (by rw [show lostT keep ((d.fl true).sure.take (d.fl true).cut.toNat) (d.fl true) = zs from by have hz := HZ.out; obtain ⟨h1, h2, h3⟩ := HT.out; have hb := HBS.out; subst hz h3 h2 h1 hb; rfl])]
      exact fin_lose true H.out (V_tn (V_own HO2.out H.out.fresh) HN.out TW) T ⟨(.slice A0 d.a.now.length c0), (.slice A1 d.a.sure.length c1), (.slice Az zs.length cz), (.slice Az zs.length cz), (((HA2.out).set 3 _).set 4 _).set 5 _, rfl, rfl, HV.out.1, HV.out.2.1⟩
end
end Go.Proofs.Ytdlfabbhdelinaa.Q
