-- printed by a program of the session's own; Lean checks it
import Derived.Test.YtfoikdjffemhbaaDoorQ0
import Derived.Test.YtfoikdjffemhbaaDoorQ1
import Derived.Test.YtfoikdjffemhbaaDoorQ2
import Derived.Test.YtfoikdjffemhbaaDoorQ3
import Derived.Test.YtfoikdjffemhbaaDoorQ5
namespace Go.Proofs.YtfoikdjffemhbaaDoor.Q
open Go.RowKit Go.Proofs.YtfoikdjffemhbaaDoorW.PrintWords Go.Proofs.YtfoikdjffemhbaaDoorW.PrintLast Go.Proofs.YtfoikdjffemhbaaDoorW.PrintMore
attribute [local go_sem] max2_int min2_int max_two min_two max_three min_three max_four min_four   -- for this text's walks alone
set_option linter.unusedVariables false
set_option linter.unusedSimpArgs false

/-! ### strings_Trim: function 38 -/
def strings_Trim.f (a0 : ByteArray) (a1 : ByteArray) : Option (ByteArray) := if a0.size ≤ 9223372036854775807 then (if a1.size < 4294967281 then (if a1.data.toList.all (fun b => decide (b.toNat < 128)) = true then (some ⟨(Lib.trimS a0.data.toList a1.data.toList).toArray⟩) else (none)) else (none)) else (none)
theorem strings_Trim.calls (a0 : ByteArray) (a1 : ByteArray) (r : ByteArray) (w : World) (h : strings_Trim.f a0 a1 = some r) :
    Calls Tryd.prog 38 #[.string a0, .string a1] w fun e w' => e = .returned (.string r) ∧ Below w.heap.size w w' := by
  unfold strings_Trim.f at h
  by_cases h1 : a0.size ≤ 9223372036854775807
  case neg =>
    rw [if_neg h1] at h
    cases h
  rw [if_pos h1] at h
  by_cases h2 : a1.size < 4294967281
  case neg =>
    rw [if_neg h2] at h
    cases h
  rw [if_pos h2] at h
  by_cases h3 : a1.data.toList.all (fun b => decide (b.toNat < 128)) = true
  case neg =>
    rw [if_neg h3] at h
    cases h
  rw [if_pos h3] at h
  obtain rfl := Option.some.inj h
  exact Tryd.strings_Trim_set a0 a1 w h1 h2 h3

/-! ### ascii_Trim: function 28 -/
def ascii_Trim.f (a0 : ByteArray) : Option (ByteArray) := (strings_Trim.f a0 (⟨#[9, 10, 12, 13, 32]⟩ : ByteArray)).bind fun t149 => (some t149)
set_option maxHeartbeats 8000000 in
set_option maxRecDepth 100000 in
theorem ascii_Trim.calls (a0 : ByteArray) (r : ByteArray) (w : World) (h : ascii_Trim.f a0 = some r) :
    Calls Tryd.prog 28 #[.string a0] w fun e w' => e = .returned (.string r) ∧ Below w.heap.size w w' := by
  have HB := Aside0.mk (Below.refl w.heap.size w)
  have H : ((strings_Trim.f a0 (⟨#[9, 10, 12, 13, 32]⟩ : ByteArray)).bind fun t149 => (some t149)) = some r := h
  clear h
  replace H := Option.bind_eq_some_iff.mp H
  obtain ⟨t149, A20, H⟩ := H
  replace H : (some t149) = some r := H
  have A2 := Aside0.mk A20
  clear A20
  obtain rfl := Option.some.inj H
  go_enter Tryd.func28, Tryd.ntmps28
  go_wp2_with (first | ((with_reducible refine gate_callee (f := 38) rfl ?_); refine goesL_ (some 4) rfl rfl Tryd.func38 (by kernel_rfl) rfl #[.string a0, .string (⟨#[9, 10, 12, 13, 32]⟩ : ByteArray)] rfl (by (try simp only [List.map_toArray, List.map_cons, List.map_nil]); first | done | rfl | (simp only [List.length_drop, List.length_take]; rfl)) ?_; (with_reducible refine (strings_Trim.calls a0 (⟨#[9, 10, 12, 13, 32]⟩ : ByteArray) t149 _ A2.out).mono ?_); rintro e w3 ⟨rfl, hb⟩; refine ⟨_, rfl, ?_⟩; have n0_ := Aside0.mk (below_step (by repeat (first | (with_reducible first | exact HB.out | apply below_alloc | apply pw_below_drewN | apply below_drew1) | exact HB.out)) hb); clear HB; have HB := n0_; clear n0_; (try clear hb); (try clear hb2); (try clear hk); (try clear hi)))
  go_ret
  exact ⟨by first | rfl | (simp [errW_none, errW_some] <;> rfl) | (simp [*, errW_none, errW_some] <;> rfl), by repeat (first | (with_reducible first | exact HB.out | apply below_alloc | apply pw_below_drewN | apply below_drew1) | exact HB.out)⟩

/-! ### date.Parse -/
theorem date_results {P : Program} {fn : Func} {p u : Tmp} {ty : TypeId} (h : fn.results = #[.cell p ty, .tmp u]) (tmps : Array Value) (w : World) (g : Nat) (t : TypeId) (cs : Array Value) (d : TypeDesc)
    (hp : tmps.getD p undef = .pointer (some ⟨g, 0, none⟩)) (hg : Blk.At g cs t w) (hu : P.underlying ty = some d) (hd : (match d with | .struct _ | .array _ _ => true | _ => false) = true) (hi : (P.info? ty).map (·.size) = some cs.size) :
    (results fn tmps).run P w = .ok (.tuple #[.agg cs, tmps.getD u undef]) w := by
  have hp' : tmps[p]?.getD undef = .pointer (some ⟨g, 0, none⟩) := by simpa using hp
  simp only [results, h]
  simp [Sem.run_bind, Result.andThen, hp', asAddr, run_loadVar_row w g t ty cs (0, 0) d hg hu hd hi]
set_option maxHeartbeats 4000000 in
set_option maxRecDepth 100000 in
theorem date_Parse.of (k g : Nat) (s : ByteArray) (x : Int) (w : World) (hG : Blk.At g #[.int .i64 x, .bool false, .bool false] 40 w) (z1 : Int) (z2 : ByteArray) (z3 t z : Bool) (h : date_Parse_1.f k s = some (z1, z2, z3, t, z)) (r : Int × Int) (hr : (if z3 = true then (0, 3) else if z2.toList = ([] : List UInt8) then (z1, 0) else (0, 3)) = r) :
    Calls Tryd.prog 27 #[.string s, .func (.func 29) #[] #[.pointer (some ⟨g, 0, none⟩)]] w fun e w' => e = .returned (.tuple #[.int .i64 r.1, .int .i64 r.2]) ∧ Blk.At g #[.int .i64 x, .bool t, .bool z] 40 w' ∧ Below g w w' := by
  have H := Aside0.mk h
  clear h
  have HL := Aside0.mk hG.lt
  have HA1 := Aside0.mk (Blk.At.new w #[.string s, .bool false] 65)
  have HG1 := Aside0.mk (hG.alloc (.cells #[.string s, .bool false] 65))
  have HB1 := Aside0.mk ((below_alloc (Below.refl _ w) (.cells #[.string s, .bool false] 65)).mono (Nat.le_of_lt HL.out))
  clear hG
  go_enter Tryd.func27, Tryd.ntmps27
  go_wp2_with fail
  refine (date_Parse_1.calls k w.heap.size g s x 65 _ HA1.out HG1.out HL.out _ H.out).mono ?_
  rintro e w2 ⟨rfl, hA_, hG_, hB_⟩
  have HA2 := Aside0.mk hA_
  have HG2 := Aside0.mk hG_
  have HB2 := Aside0.mk (HB1.out.trans hB_)
  clear hA_ hB_ hG_ HA1 HB1 HG1
  have c0 : w2.cell? ⟨w.heap.size, 0, none⟩ = some (.string z2) := HA2.out.cell 0
  have c1 : w2.cell? ⟨w.heap.size, 1, none⟩ = some (.bool z3) := HA2.out.cell 1
  cases z3
  · rw [if_neg (by simp)] at hr
    by_cases ee : z2.toList = ([] : List UInt8)
    · rw [if_pos ee] at hr
      subst hr
      have ee1 : (z2.toList != ([] : List UInt8)) = false := by simp [ee]
      have ee2 : (z2.toList == ([] : List UInt8)) = true := by simp [ee]
      go_wp2_with fail
      go_ret2
      exact ⟨rfl, HG2.out, HB2.out⟩
    · rw [if_neg ee] at hr
      subst hr
      have ee1 : (z2.toList != ([] : List UInt8)) = true := by simp [ee]
      have ee2 : (z2.toList == ([] : List UInt8)) = false := by simp [ee]
      go_wp2_with fail
      go_ret2
      exact ⟨rfl, HG2.out, HB2.out⟩
  · rw [if_pos rfl] at hr
    subst hr
    go_wp2_with fail
    go_ret2
    exact ⟨rfl, HG2.out, HB2.out⟩
def date_Parse.f (k : Nat) (a0 : ByteArray) : Option (Int × Bool × Bool × Int) := (ascii_Trim.f a0).bind fun s => (date_Parse_1.f k s).bind fun p => some (if p.2.2.1 = true then (0, false, false, 3) else if p.2.1.toList = ([] : List UInt8) then (p.1, p.2.2.2.1, p.2.2.2.2, 0) else (0, false, false, 3))
set_option maxHeartbeats 4000000 in
set_option maxRecDepth 100000 in
theorem date_Parse.calls (k : Nat) (a0 : ByteArray) (r1 : Int) (r2 r3 : Bool) (r4 : Int) (w : World) (h : date_Parse.f k a0 = some (r1, r2, r3, r4)) :
    Calls Tryd.prog 16 #[.string a0] w fun e w' => e = .returned (.tuple #[.agg #[.int .i64 r1, .bool r2, .bool r3], .int .i64 r4]) ∧ Below w.heap.size w w' := by
  unfold date_Parse.f at h
  obtain ⟨t, hT_, h⟩ := Option.bind_eq_some_iff.mp h
  have T := Aside0.mk hT_
  clear hT_
  obtain ⟨⟨z1, z2, z3, y, z⟩, hH_, h⟩ := Option.bind_eq_some_iff.mp h
  have H := Aside0.mk hH_
  clear hH_
  simp only [] at h
  have hsz : ∀ o : Obj, (w.alloc o).heap.size = w.heap.size + 1 := fun o => Array.size_push _
  have HM := Aside0.mk (show Blk.At (w.heap.size + 1) #[.int .i64 0, .bool false, .bool false] 40 ((w.alloc (.cells #[.int .i64 0, .bool false, .bool false] 40)).alloc (.cells #[.int .i64 0, .bool false, .bool false] 40)) from by
    have h1 := Blk.At.new (w.alloc (.cells #[.int .i64 0, .bool false, .bool false] 40)) #[.int .i64 0, .bool false, .bool false] 40
    rw [hsz] at h1
    exact h1)
  have HR := Aside0.mk ((Blk.At.new w #[.int .i64 0, .bool false, .bool false] 40).alloc (.cells #[.int .i64 0, .bool false, .bool false] 40))
  have HB := Aside0.mk (below_alloc (below_alloc (Below.refl _ w) (.cells #[.int .i64 0, .bool false, .bool false] 40)) (.cells #[.int .i64 0, .bool false, .bool false] 40))
  clear hsz
  go_enter Tryd.func16, Tryd.ntmps16
  go_wp2_with fail
  refine (ascii_Trim.calls a0 t _ T.out).mono ?_
  rintro e w1 ⟨rfl, hw⟩
  have hw' : Below _ _ w1 := hw
  have HM1 := Aside0.mk (HM.out.below hw' HM.out.lt)
  have HR1 := Aside0.mk (HR.out.below hw' HR.out.lt)
  have HB1 := Aside0.mk (below_step HB.out hw')
  clear hw hw' HM HR HB
  go_wp2_with fail
  refine (date_Parse.of k (w.heap.size + 1) t 0 _ HM1.out z1 z2 z3 y z H.out _ rfl).mono ?_
  rintro e w2 ⟨rfl, hM_, hB_⟩
  have HM2 := Aside0.mk hM_
  have HR2 := Aside0.mk (HR1.out.below hB_ (Nat.lt_succ_self _))
  have HB2 := Aside0.mk (HB1.out.trans (hB_.mono (Nat.le_succ _)))
  clear hM_ hB_ HM1 HR1 HB1
  by_cases e3 : z3 = true
  · rw [if_pos e3] at h ⊢
    have r0 : w2.frozen? ⟨w.heap.size, 0, none⟩ = false := HR2.out.frozen 0
    have r1_ : w2.frozen? ⟨w.heap.size, 1, none⟩ = false := HR2.out.frozen 1
    have r2_ : w2.frozen? ⟨w.heap.size, 2, none⟩ = false := HR2.out.frozen 2
    have q0 : w2.cell? ⟨w.heap.size, 0, none⟩ = some (.int .i64 0) := HR2.out.cell 0
    have q1 : w2.cell? ⟨w.heap.size, 1, none⟩ = some (.bool false) := HR2.out.cell 1
    have q2 : w2.cell? ⟨w.heap.size, 2, none⟩ = some (.bool false) := HR2.out.cell 2
    simp only [Option.some.injEq, Prod.mk.injEq] at h
    obtain ⟨rfl, rfl, rfl, rfl⟩ := h
    go_wp2_with fail
    have HF := HR2.out.filled [.int .i64 0, .bool false, .bool false] rfl
    have HBF := Blk.below_fill (Nat.le_refl _) [.int .i64 0, .bool false, .bool false] 0 _ HB2.out
    (try simp only [Exit.inBlock, Exit.then])
    refine bodyPost_ret (date_results rfl _ _ w.heap.size 40 #[.int .i64 0, .bool false, .bool false] _ rfl HF Tryd.underlying40 rfl (by kernel_rfl)) rfl ?_
    exact ⟨rfl, HBF⟩
  · rw [if_neg e3] at h ⊢
    by_cases e5 : z2.toList = ([] : List UInt8)
    · rw [if_pos e5] at h ⊢
      have r0 : w2.frozen? ⟨w.heap.size, 0, none⟩ = false := HR2.out.frozen 0
      have r1_ : w2.frozen? ⟨w.heap.size, 1, none⟩ = false := HR2.out.frozen 1
      have r2_ : w2.frozen? ⟨w.heap.size, 2, none⟩ = false := HR2.out.frozen 2
      have q0 : w2.cell? ⟨w.heap.size, 0, none⟩ = some (.int .i64 0) := HR2.out.cell 0
      have q1 : w2.cell? ⟨w.heap.size, 1, none⟩ = some (.bool false) := HR2.out.cell 1
      have q2 : w2.cell? ⟨w.heap.size, 2, none⟩ = some (.bool false) := HR2.out.cell 2
      have m0 : w2.frozen? ⟨w.heap.size + 1, 0, none⟩ = false := HM2.out.frozen 0
      have n0 : w2.cell? ⟨w.heap.size + 1, 0, none⟩ = some (.int .i64 0) := HM2.out.cell 0
      have n1 : w2.cell? ⟨w.heap.size + 1, 1, none⟩ = some (.bool y) := HM2.out.cell 1
      have n2 : w2.cell? ⟨w.heap.size + 1, 2, none⟩ = some (.bool z) := HM2.out.cell 2
      simp only [Option.some.injEq, Prod.mk.injEq] at h
      obtain ⟨rfl, rfl, rfl, rfl⟩ := h
      go_wp2_with fail
      have HF := ((HR2.out.set_other (g := w.heap.size + 1) (by omega) 0 (.int .i64 z1)).filled [.int .i64 z1, .bool y, .bool z] rfl)
      have HBF := Blk.below_fill (Nat.le_refl _) [.int .i64 z1, .bool y, .bool z] 0 _ (below_set (g := w.heap.size + 1) (j := 0) (v := .int .i64 z1) HB2.out (Nat.le_succ _))
      (try simp only [Exit.inBlock, Exit.then])
      refine bodyPost_ret (date_results rfl _ _ w.heap.size 40 #[.int .i64 z1, .bool y, .bool z] _ rfl HF Tryd.underlying40 rfl (by kernel_rfl)) rfl ?_
      exact ⟨rfl, HBF⟩
    · rw [if_neg e5] at h ⊢
      have r0 : w2.frozen? ⟨w.heap.size, 0, none⟩ = false := HR2.out.frozen 0
      have r1_ : w2.frozen? ⟨w.heap.size, 1, none⟩ = false := HR2.out.frozen 1
      have r2_ : w2.frozen? ⟨w.heap.size, 2, none⟩ = false := HR2.out.frozen 2
      have q0 : w2.cell? ⟨w.heap.size, 0, none⟩ = some (.int .i64 0) := HR2.out.cell 0
      have q1 : w2.cell? ⟨w.heap.size, 1, none⟩ = some (.bool false) := HR2.out.cell 1
      have q2 : w2.cell? ⟨w.heap.size, 2, none⟩ = some (.bool false) := HR2.out.cell 2
      simp only [Option.some.injEq, Prod.mk.injEq] at h
      obtain ⟨rfl, rfl, rfl, rfl⟩ := h
      go_wp2_with fail
      have HF := HR2.out.filled [.int .i64 0, .bool false, .bool false] rfl
      have HBF := Blk.below_fill (Nat.le_refl _) [.int .i64 0, .bool false, .bool false] 0 _ HB2.out
      (try simp only [Exit.inBlock, Exit.then])
      refine bodyPost_ret (date_results rfl _ _ w.heap.size 40 #[.int .i64 0, .bool false, .bool false] _ rfl HF Tryd.underlying40 rfl (by kernel_rfl)) rfl ?_
      exact ⟨rfl, HBF⟩

theorem date_Parse.mono : ∀ a0 k, LeO (date_Parse.f k a0) (date_Parse.f (k + 1) a0) := by
  intro a0 k
  unfold date_Parse.f
  exact LeO.bind (LeO.refl _) (fun _ => LeO.bind (date_Parse_1.mono _ k) (fun _ => LeO.refl _))

/-! ### cringlelaw06_alive: function 12 -/
def cringlelaw06_alive.f (k : Nat)  : Option (Bool) := (date_Parse.f k (⟨#[50, 48, 50, 48, 45, 48, 50, 45, 50, 57, 32, 50, 51, 58, 51, 48, 32, 45, 48, 49, 51, 48]⟩ : ByteArray)).bind fun bt150 => ((date_Format.f k bt150.1).bind fun bt155 => (if bt150.2.2.2 = 0 then (if bt155.1.toList = ([50, 48, 50, 48, 45, 48, 51, 45, 48, 49, 84, 48, 49, 58, 48, 48, 58, 48, 48, 90] : List UInt8) then (if bt155.2 = 0 then (if bt150.2.1 = true then (some bt150.2.2.1) else (some false)) else (some false)) else (some false)) else (some false)))
theorem cringlelaw06_alive.mono : ∀ k, LeO (cringlelaw06_alive.f k ) (cringlelaw06_alive.f (k + 1) ) := by
  intro  k
  unfold cringlelaw06_alive.f
  repeat' first
      | (with_reducible exact date_Format.mono _ _)
      | (with_reducible exact date_Parse.mono _ _)
      | (with_reducible exact LeO.refl _)
      | (with_reducible exact LeO.none _)
      | (with_reducible refine LeO.ite ?_ ?_)
      | (with_reducible refine LeO.bind ?_ (fun _ => ?_))
      | exact date_Format.mono _ _
      | exact date_Parse.mono _ _
      | exact LeO.none _
      | refine LeO.ite ?_ ?_
      | refine LeO.bind ?_ (fun _ => ?_)
set_option maxHeartbeats 8000000 in
set_option maxRecDepth 100000 in
theorem cringlelaw06_alive.calls (k : Nat)  (r : Bool) (w : World) (h : cringlelaw06_alive.f k  = some r) :
    Calls Tryd.prog 12 #[] w fun e w' => e = .returned (.bool r) ∧ Below w.heap.size w w' := by
  have hu40 := Tryd.underlying40
  have HB := Aside0.mk (Below.refl w.heap.size w)
  have H : ((date_Parse.f k (⟨#[50, 48, 50, 48, 45, 48, 50, 45, 50, 57, 32, 50, 51, 58, 51, 48, 32, 45, 48, 49, 51, 48]⟩ : ByteArray)).bind fun bt150 => ((date_Format.f k bt150.1).bind fun bt155 => (if bt150.2.2.2 = 0 then (if bt155.1.toList = ([50, 48, 50, 48, 45, 48, 51, 45, 48, 49, 84, 48, 49, 58, 48, 48, 58, 48, 48, 90] : List UInt8) then (if bt155.2 = 0 then (if bt150.2.1 = true then (some bt150.2.2.1) else (some false)) else (some false)) else (some false)) else (some false)))) = some r := h
  clear h
  replace H := Option.bind_eq_some_iff.mp H
  obtain ⟨⟨t150, t151, t152, t153⟩, A10, H⟩ := H
  replace H : ((date_Format.f k t150).bind fun bt155 => (if t153 = 0 then (if bt155.1.toList = ([50, 48, 50, 48, 45, 48, 51, 45, 48, 49, 84, 48, 49, 58, 48, 48, 58, 48, 48, 90] : List UInt8) then (if bt155.2 = 0 then (if t151 = true then (some t152) else (some false)) else (some false)) else (some false)) else (some false))) = some r := H
  have A1 := Aside0.mk A10
  clear A10
  replace H := Option.bind_eq_some_iff.mp H
  obtain ⟨⟨t155, t156⟩, A20, H⟩ := H
  replace H : (if t153 = 0 then (if t155.toList = ([50, 48, 50, 48, 45, 48, 51, 45, 48, 49, 84, 48, 49, 58, 48, 48, 58, 48, 48, 90] : List UInt8) then (if t156 = 0 then (if t151 = true then (some t152) else (some false)) else (some false)) else (some false)) else (some false)) = some r := H
  have A2 := Aside0.mk A20
  clear A20
  by_cases c3 : t153 = 0
  · rw [if_pos c3] at H
    have c3b0 : (t153 == 0) = true := beq_iff_eq.mpr c3
    have c3b1 : (t153 != 0) = false := bne_eq_false_iff_eq.mpr c3
    clear c3
    by_cases c4 : t155.toList = ([50, 48, 50, 48, 45, 48, 51, 45, 48, 49, 84, 48, 49, 58, 48, 48, 58, 48, 48, 90] : List UInt8)
    · rw [if_pos c4] at H
      have c4b0 : (t155.toList == ([50, 48, 50, 48, 45, 48, 51, 45, 48, 49, 84, 48, 49, 58, 48, 48, 58, 48, 48, 90] : List UInt8)) = true := beq_iff_eq.mpr c4
      have c4b1 : (t155.toList != ([50, 48, 50, 48, 45, 48, 51, 45, 48, 49, 84, 48, 49, 58, 48, 48, 58, 48, 48, 90] : List UInt8)) = false := bne_eq_false_iff_eq.mpr c4
      clear c4
      by_cases c5 : t156 = 0
      · rw [if_pos c5] at H
        have c5b0 : (t156 == 0) = true := beq_iff_eq.mpr c5
        have c5b1 : (t156 != 0) = false := bne_eq_false_iff_eq.mpr c5
        clear c5
        by_cases c6 : t151 = true
        · subst c6
          have H1 : (some t152) = some r := by rw [if_pos rfl] at H; exact H
          clear H
          have H := H1
          clear H1
          obtain rfl := Option.some.inj H
          go_enter Tryd.func12, Tryd.ntmps12
          go_wp2_with (first | ((with_reducible refine gate_callee (f := 16) rfl ?_); refine goesL_ (some 6) rfl rfl Tryd.func16 (by kernel_rfl) rfl #[.string (⟨#[50, 48, 50, 48, 45, 48, 50, 45, 50, 57, 32, 50, 51, 58, 51, 48, 32, 45, 48, 49, 51, 48]⟩ : ByteArray)] rfl (by (try simp only [List.map_toArray, List.map_cons, List.map_nil]); first | done | rfl | (simp only [List.length_drop, List.length_take]; rfl)) ?_; (with_reducible refine (date_Parse.calls k (⟨#[50, 48, 50, 48, 45, 48, 50, 45, 50, 57, 32, 50, 51, 58, 51, 48, 32, 45, 48, 49, 51, 48]⟩ : ByteArray) t150 true t152 t153 _ A1.out).mono ?_); rintro e w7 ⟨rfl, hb⟩; refine ⟨_, rfl, ?_⟩; have n0_ := Aside0.mk (below_step (by repeat (first | (with_reducible first | exact HB.out | apply below_alloc | apply pw_below_drewN | apply below_drew1) | exact HB.out)) hb); clear HB; have HB := n0_; clear n0_; (try clear hb); (try clear hb2); (try clear hk); (try clear hi)) | ((with_reducible refine gate_dst (N := 1) rfl ?_); refine box_event ?hg (N := 1) ?hd (cs := #[.int .i64 0, .bool false, .bool false]) (t := 40) ?hr ?_; (case hd => rfl); (case hg => rfl); (case hr => first | (go_simp; done) | (go_simp; rfl)); intro gb154 hg w8 hbox hb; have n0_ := Aside0.mk (below_step (by repeat (first | (with_reducible first | exact HB.out | apply below_alloc | apply pw_below_drewN | apply below_drew1) | exact HB.out)) hb); have n1_ := Aside0.mk (hbox); have n2_ := Aside0.mk ((by rw [hg]; exact (below_size (by repeat (first | (with_reducible first | exact HB.out | apply below_alloc | apply pw_below_drewN | apply below_drew1) | exact HB.out))) : w.heap.size ≤ gb154)); have n3_ := Aside0.mk ((by rw [hg]; exact (below_size (by repeat (first | (with_reducible first | exact HB.out | apply below_alloc | apply pw_below_drewN | apply below_drew1) | exact HB.out))) : w.heap.size ≤ gb154)); clear HB; have HB := n0_; have BK154 := n1_; have GW154 := n2_; have GE154 := n3_; clear n0_ n1_ n2_ n3_; clear hb hbox hg; have hcz9_0 : w8.cell? ⟨gb154, 0, none⟩ = some (.int .i64 0) := (blk_cell BK154.out 0).trans rfl; have hcz9_1 : w8.cell? ⟨gb154, 1, none⟩ = some (.bool false) := (blk_cell BK154.out 1).trans rfl; have hcz9_2 : w8.cell? ⟨gb154, 2, none⟩ = some (.bool false) := (blk_cell BK154.out 2).trans rfl; have hfz9_0 := blk_frozen BK154.out 0; have hfz9_1 := blk_frozen BK154.out 1; have hfz9_2 := blk_frozen BK154.out 2) | ((with_reducible refine gate_callee (f := 15) rfl ?_); refine goesL_ (some 12) rfl rfl Tryd.func15 (by kernel_rfl) rfl #[.int .i64 t150] rfl (by (try simp only [List.map_toArray, List.map_cons, List.map_nil]); first | done | rfl | (simp only [List.length_drop, List.length_take]; rfl)) ?_; (with_reducible refine (date_Format.calls k t150 t155 t156 _ A2.out).mono ?_); rintro e w10 ⟨rfl, hb⟩; refine ⟨_, rfl, ?_⟩; have n0_ := Aside0.mk (blk_below (g := gb154) (o := .cells #[.int .i64 t150, .bool true, .bool t152] 40 (0, 0)) (by (with_reducible repeat (first | refine blk_drewN ?_ _ | refine blk_drew ?_ | refine blk_alloc ?_ _)); refine blk_put (cs := #[.int .i64 t150, .bool true, .bool false]) ?_ 2 _ rfl; (with_reducible repeat (first | refine blk_drewN ?_ _ | refine blk_drew ?_ | refine blk_alloc ?_ _)); refine blk_put (cs := #[.int .i64 t150, .bool false, .bool false]) ?_ 1 _ rfl; (with_reducible repeat (first | refine blk_drewN ?_ _ | refine blk_drew ?_ | refine blk_alloc ?_ _)); refine blk_put (cs := #[.int .i64 0, .bool false, .bool false]) ?_ 0 _ rfl; (with_reducible repeat (first | refine blk_drewN ?_ _ | refine blk_drew ?_ | refine blk_alloc ?_ _)); exact BK154.out) hb); have n1_ := Aside0.mk (below_step (by repeat (first | (with_reducible first | exact HB.out | apply below_alloc | apply pw_below_drewN | apply below_drew1 | refine below_set ?_ GE154.out) | exact HB.out)) hb); clear BK154; clear HB; have BK154 := n0_; have HB := n1_; clear n0_ n1_; (try clear hb); (try clear hb2); (try clear hk); (try clear hi); have hcz11_0 : w10.cell? ⟨gb154, 0, none⟩ = some (.int .i64 t150) := (blk_cell BK154.out 0).trans rfl; have hcz11_1 : w10.cell? ⟨gb154, 1, none⟩ = some (.bool true) := (blk_cell BK154.out 1).trans rfl; have hcz11_2 : w10.cell? ⟨gb154, 2, none⟩ = some (.bool t152) := (blk_cell BK154.out 2).trans rfl; have hfz11_0 := blk_frozen BK154.out 0; have hfz11_1 := blk_frozen BK154.out 1; have hfz11_2 := blk_frozen BK154.out 2))
          go_ret
          exact ⟨by first | rfl | (simp [errW_none, errW_some] <;> rfl) | (simp [*, errW_none, errW_some] <;> rfl), by repeat (first | (with_reducible first | exact HB.out | apply below_alloc | apply pw_below_drewN | apply below_drew1 | refine below_set ?_ GE154.out) | exact HB.out)⟩
        · replace c6 := Bool.eq_false_iff.mpr c6
          subst c6
          have H1 : (some false) = some r := by rw [if_neg (show ¬ (false = true) by decide)] at H; exact H
          clear H
          have H := H1
          clear H1
          obtain rfl := Option.some.inj H
          go_enter Tryd.func12, Tryd.ntmps12
          go_wp2_with (first | ((with_reducible refine gate_callee (f := 16) rfl ?_); refine goesL_ (some 6) rfl rfl Tryd.func16 (by kernel_rfl) rfl #[.string (⟨#[50, 48, 50, 48, 45, 48, 50, 45, 50, 57, 32, 50, 51, 58, 51, 48, 32, 45, 48, 49, 51, 48]⟩ : ByteArray)] rfl (by (try simp only [List.map_toArray, List.map_cons, List.map_nil]); first | done | rfl | (simp only [List.length_drop, List.length_take]; rfl)) ?_; (with_reducible refine (date_Parse.calls k (⟨#[50, 48, 50, 48, 45, 48, 50, 45, 50, 57, 32, 50, 51, 58, 51, 48, 32, 45, 48, 49, 51, 48]⟩ : ByteArray) t150 false t152 t153 _ A1.out).mono ?_); rintro e w12 ⟨rfl, hb⟩; refine ⟨_, rfl, ?_⟩; have n0_ := Aside0.mk (below_step (by repeat (first | (with_reducible first | exact HB.out | apply below_alloc | apply pw_below_drewN | apply below_drew1) | exact HB.out)) hb); clear HB; have HB := n0_; clear n0_; (try clear hb); (try clear hb2); (try clear hk); (try clear hi)) | ((with_reducible refine gate_dst (N := 1) rfl ?_); refine box_event ?hg (N := 1) ?hd (cs := #[.int .i64 0, .bool false, .bool false]) (t := 40) ?hr ?_; (case hd => rfl); (case hg => rfl); (case hr => first | (go_simp; done) | (go_simp; rfl)); intro gb154 hg w13 hbox hb; have n0_ := Aside0.mk (below_step (by repeat (first | (with_reducible first | exact HB.out | apply below_alloc | apply pw_below_drewN | apply below_drew1) | exact HB.out)) hb); have n1_ := Aside0.mk (hbox); have n2_ := Aside0.mk ((by rw [hg]; exact (below_size (by repeat (first | (with_reducible first | exact HB.out | apply below_alloc | apply pw_below_drewN | apply below_drew1) | exact HB.out))) : w.heap.size ≤ gb154)); have n3_ := Aside0.mk ((by rw [hg]; exact (below_size (by repeat (first | (with_reducible first | exact HB.out | apply below_alloc | apply pw_below_drewN | apply below_drew1) | exact HB.out))) : w.heap.size ≤ gb154)); clear HB; have HB := n0_; have BK154 := n1_; have GW154 := n2_; have GE154 := n3_; clear n0_ n1_ n2_ n3_; clear hb hbox hg; have hcz14_0 : w13.cell? ⟨gb154, 0, none⟩ = some (.int .i64 0) := (blk_cell BK154.out 0).trans rfl; have hcz14_1 : w13.cell? ⟨gb154, 1, none⟩ = some (.bool false) := (blk_cell BK154.out 1).trans rfl; have hcz14_2 : w13.cell? ⟨gb154, 2, none⟩ = some (.bool false) := (blk_cell BK154.out 2).trans rfl; have hfz14_0 := blk_frozen BK154.out 0; have hfz14_1 := blk_frozen BK154.out 1; have hfz14_2 := blk_frozen BK154.out 2) | ((with_reducible refine gate_callee (f := 15) rfl ?_); refine goesL_ (some 12) rfl rfl Tryd.func15 (by kernel_rfl) rfl #[.int .i64 t150] rfl (by (try simp only [List.map_toArray, List.map_cons, List.map_nil]); first | done | rfl | (simp only [List.length_drop, List.length_take]; rfl)) ?_; (with_reducible refine (date_Format.calls k t150 t155 t156 _ A2.out).mono ?_); rintro e w15 ⟨rfl, hb⟩; refine ⟨_, rfl, ?_⟩; have n0_ := Aside0.mk (blk_below (g := gb154) (o := .cells #[.int .i64 t150, .bool false, .bool t152] 40 (0, 0)) (by (with_reducible repeat (first | refine blk_drewN ?_ _ | refine blk_drew ?_ | refine blk_alloc ?_ _)); refine blk_put (cs := #[.int .i64 t150, .bool false, .bool false]) ?_ 2 _ rfl; (with_reducible repeat (first | refine blk_drewN ?_ _ | refine blk_drew ?_ | refine blk_alloc ?_ _)); refine blk_put (cs := #[.int .i64 t150, .bool false, .bool false]) ?_ 1 _ rfl; (with_reducible repeat (first | refine blk_drewN ?_ _ | refine blk_drew ?_ | refine blk_alloc ?_ _)); refine blk_put (cs := #[.int .i64 0, .bool false, .bool false]) ?_ 0 _ rfl; (with_reducible repeat (first | refine blk_drewN ?_ _ | refine blk_drew ?_ | refine blk_alloc ?_ _)); exact BK154.out) hb); have n1_ := Aside0.mk (below_step (by repeat (first | (with_reducible first | exact HB.out | apply below_alloc | apply pw_below_drewN | apply below_drew1 | refine below_set ?_ GE154.out) | exact HB.out)) hb); clear BK154; clear HB; have BK154 := n0_; have HB := n1_; clear n0_ n1_; (try clear hb); (try clear hb2); (try clear hk); (try clear hi); have hcz16_0 : w15.cell? ⟨gb154, 0, none⟩ = some (.int .i64 t150) := (blk_cell BK154.out 0).trans rfl; have hcz16_1 : w15.cell? ⟨gb154, 1, none⟩ = some (.bool false) := (blk_cell BK154.out 1).trans rfl; have hcz16_2 : w15.cell? ⟨gb154, 2, none⟩ = some (.bool t152) := (blk_cell BK154.out 2).trans rfl; have hfz16_0 := blk_frozen BK154.out 0; have hfz16_1 := blk_frozen BK154.out 1; have hfz16_2 := blk_frozen BK154.out 2))
          go_ret
          exact ⟨by first | rfl | (simp [errW_none, errW_some] <;> rfl) | (simp [*, errW_none, errW_some] <;> rfl), by repeat (first | (with_reducible first | exact HB.out | apply below_alloc | apply pw_below_drewN | apply below_drew1 | refine below_set ?_ GE154.out) | exact HB.out)⟩
      · rw [if_neg c5] at H
        have c5b0 : (t156 == 0) = false := beq_eq_false_iff_ne.mpr c5
        have c5b1 : (t156 != 0) = true := bne_iff_ne.mpr c5
        obtain rfl := Option.some.inj H
        go_enter Tryd.func12, Tryd.ntmps12
        go_wp2_with (first | ((with_reducible refine gate_callee (f := 16) rfl ?_); refine goesL_ (some 6) rfl rfl Tryd.func16 (by kernel_rfl) rfl #[.string (⟨#[50, 48, 50, 48, 45, 48, 50, 45, 50, 57, 32, 50, 51, 58, 51, 48, 32, 45, 48, 49, 51, 48]⟩ : ByteArray)] rfl (by (try simp only [List.map_toArray, List.map_cons, List.map_nil]); first | done | rfl | (simp only [List.length_drop, List.length_take]; rfl)) ?_; (with_reducible refine (date_Parse.calls k (⟨#[50, 48, 50, 48, 45, 48, 50, 45, 50, 57, 32, 50, 51, 58, 51, 48, 32, 45, 48, 49, 51, 48]⟩ : ByteArray) t150 t151 t152 t153 _ A1.out).mono ?_); rintro e w17 ⟨rfl, hb⟩; refine ⟨_, rfl, ?_⟩; have n0_ := Aside0.mk (below_step (by repeat (first | (with_reducible first | exact HB.out | apply below_alloc | apply pw_below_drewN | apply below_drew1) | exact HB.out)) hb); clear HB; have HB := n0_; clear n0_; (try clear hb); (try clear hb2); (try clear hk); (try clear hi)) | ((with_reducible refine gate_dst (N := 1) rfl ?_); refine box_event ?hg (N := 1) ?hd (cs := #[.int .i64 0, .bool false, .bool false]) (t := 40) ?hr ?_; (case hd => rfl); (case hg => rfl); (case hr => first | (go_simp; done) | (go_simp; rfl)); intro gb154 hg w18 hbox hb; have n0_ := Aside0.mk (below_step (by repeat (first | (with_reducible first | exact HB.out | apply below_alloc | apply pw_below_drewN | apply below_drew1) | exact HB.out)) hb); have n1_ := Aside0.mk (hbox); have n2_ := Aside0.mk ((by rw [hg]; exact (below_size (by repeat (first | (with_reducible first | exact HB.out | apply below_alloc | apply pw_below_drewN | apply below_drew1) | exact HB.out))) : w.heap.size ≤ gb154)); have n3_ := Aside0.mk ((by rw [hg]; exact (below_size (by repeat (first | (with_reducible first | exact HB.out | apply below_alloc | apply pw_below_drewN | apply below_drew1) | exact HB.out))) : w.heap.size ≤ gb154)); clear HB; have HB := n0_; have BK154 := n1_; have GW154 := n2_; have GE154 := n3_; clear n0_ n1_ n2_ n3_; clear hb hbox hg; have hcz19_0 : w18.cell? ⟨gb154, 0, none⟩ = some (.int .i64 0) := (blk_cell BK154.out 0).trans rfl; have hcz19_1 : w18.cell? ⟨gb154, 1, none⟩ = some (.bool false) := (blk_cell BK154.out 1).trans rfl; have hcz19_2 : w18.cell? ⟨gb154, 2, none⟩ = some (.bool false) := (blk_cell BK154.out 2).trans rfl; have hfz19_0 := blk_frozen BK154.out 0; have hfz19_1 := blk_frozen BK154.out 1; have hfz19_2 := blk_frozen BK154.out 2) | ((with_reducible refine gate_callee (f := 15) rfl ?_); refine goesL_ (some 12) rfl rfl Tryd.func15 (by kernel_rfl) rfl #[.int .i64 t150] rfl (by (try simp only [List.map_toArray, List.map_cons, List.map_nil]); first | done | rfl | (simp only [List.length_drop, List.length_take]; rfl)) ?_; (with_reducible refine (date_Format.calls k t150 t155 t156 _ A2.out).mono ?_); rintro e w20 ⟨rfl, hb⟩; refine ⟨_, rfl, ?_⟩; have n0_ := Aside0.mk (blk_below (g := gb154) (o := .cells #[.int .i64 t150, .bool t151, .bool t152] 40 (0, 0)) (by (with_reducible repeat (first | refine blk_drewN ?_ _ | refine blk_drew ?_ | refine blk_alloc ?_ _)); refine blk_put (cs := #[.int .i64 t150, .bool t151, .bool false]) ?_ 2 _ rfl; (with_reducible repeat (first | refine blk_drewN ?_ _ | refine blk_drew ?_ | refine blk_alloc ?_ _)); refine blk_put (cs := #[.int .i64 t150, .bool false, .bool false]) ?_ 1 _ rfl; (with_reducible repeat (first | refine blk_drewN ?_ _ | refine blk_drew ?_ | refine blk_alloc ?_ _)); refine blk_put (cs := #[.int .i64 0, .bool false, .bool false]) ?_ 0 _ rfl; (with_reducible repeat (first | refine blk_drewN ?_ _ | refine blk_drew ?_ | refine blk_alloc ?_ _)); exact BK154.out) hb); have n1_ := Aside0.mk (below_step (by repeat (first | (with_reducible first | exact HB.out | apply below_alloc | apply pw_below_drewN | apply below_drew1 | refine below_set ?_ GE154.out) | exact HB.out)) hb); clear BK154; clear HB; have BK154 := n0_; have HB := n1_; clear n0_ n1_; (try clear hb); (try clear hb2); (try clear hk); (try clear hi)))
        go_ret
        exact ⟨by first | rfl | (simp [errW_none, errW_some] <;> rfl) | (simp [*, errW_none, errW_some] <;> rfl), by repeat (first | (with_reducible first | exact HB.out | apply below_alloc | apply pw_below_drewN | apply below_drew1 | refine below_set ?_ GE154.out) | exact HB.out)⟩
    · rw [if_neg c4] at H
      have c4b0 : (t155.toList == ([50, 48, 50, 48, 45, 48, 51, 45, 48, 49, 84, 48, 49, 58, 48, 48, 58, 48, 48, 90] : List UInt8)) = false := beq_eq_false_iff_ne.mpr c4
      have c4b1 : (t155.toList != ([50, 48, 50, 48, 45, 48, 51, 45, 48, 49, 84, 48, 49, 58, 48, 48, 58, 48, 48, 90] : List UInt8)) = true := bne_iff_ne.mpr c4
      obtain rfl := Option.some.inj H
      go_enter Tryd.func12, Tryd.ntmps12
      go_wp2_with (first | ((with_reducible refine gate_callee (f := 16) rfl ?_); refine goesL_ (some 6) rfl rfl Tryd.func16 (by kernel_rfl) rfl #[.string (⟨#[50, 48, 50, 48, 45, 48, 50, 45, 50, 57, 32, 50, 51, 58, 51, 48, 32, 45, 48, 49, 51, 48]⟩ : ByteArray)] rfl (by (try simp only [List.map_toArray, List.map_cons, List.map_nil]); first | done | rfl | (simp only [List.length_drop, List.length_take]; rfl)) ?_; (with_reducible refine (date_Parse.calls k (⟨#[50, 48, 50, 48, 45, 48, 50, 45, 50, 57, 32, 50, 51, 58, 51, 48, 32, 45, 48, 49, 51, 48]⟩ : ByteArray) t150 t151 t152 t153 _ A1.out).mono ?_); rintro e w21 ⟨rfl, hb⟩; refine ⟨_, rfl, ?_⟩; have n0_ := Aside0.mk (below_step (by repeat (first | (with_reducible first | exact HB.out | apply below_alloc | apply pw_below_drewN | apply below_drew1) | exact HB.out)) hb); clear HB; have HB := n0_; clear n0_; (try clear hb); (try clear hb2); (try clear hk); (try clear hi)) | ((with_reducible refine gate_dst (N := 1) rfl ?_); refine box_event ?hg (N := 1) ?hd (cs := #[.int .i64 0, .bool false, .bool false]) (t := 40) ?hr ?_; (case hd => rfl); (case hg => rfl); (case hr => first | (go_simp; done) | (go_simp; rfl)); intro gb154 hg w22 hbox hb; have n0_ := Aside0.mk (below_step (by repeat (first | (with_reducible first | exact HB.out | apply below_alloc | apply pw_below_drewN | apply below_drew1) | exact HB.out)) hb); have n1_ := Aside0.mk (hbox); have n2_ := Aside0.mk ((by rw [hg]; exact (below_size (by repeat (first | (with_reducible first | exact HB.out | apply below_alloc | apply pw_below_drewN | apply below_drew1) | exact HB.out))) : w.heap.size ≤ gb154)); have n3_ := Aside0.mk ((by rw [hg]; exact (below_size (by repeat (first | (with_reducible first | exact HB.out | apply below_alloc | apply pw_below_drewN | apply below_drew1) | exact HB.out))) : w.heap.size ≤ gb154)); clear HB; have HB := n0_; have BK154 := n1_; have GW154 := n2_; have GE154 := n3_; clear n0_ n1_ n2_ n3_; clear hb hbox hg; have hcz23_0 : w22.cell? ⟨gb154, 0, none⟩ = some (.int .i64 0) := (blk_cell BK154.out 0).trans rfl; have hcz23_1 : w22.cell? ⟨gb154, 1, none⟩ = some (.bool false) := (blk_cell BK154.out 1).trans rfl; have hcz23_2 : w22.cell? ⟨gb154, 2, none⟩ = some (.bool false) := (blk_cell BK154.out 2).trans rfl; have hfz23_0 := blk_frozen BK154.out 0; have hfz23_1 := blk_frozen BK154.out 1; have hfz23_2 := blk_frozen BK154.out 2) | ((with_reducible refine gate_callee (f := 15) rfl ?_); refine goesL_ (some 12) rfl rfl Tryd.func15 (by kernel_rfl) rfl #[.int .i64 t150] rfl (by (try simp only [List.map_toArray, List.map_cons, List.map_nil]); first | done | rfl | (simp only [List.length_drop, List.length_take]; rfl)) ?_; (with_reducible refine (date_Format.calls k t150 t155 t156 _ A2.out).mono ?_); rintro e w24 ⟨rfl, hb⟩; refine ⟨_, rfl, ?_⟩; have n0_ := Aside0.mk (blk_below (g := gb154) (o := .cells #[.int .i64 t150, .bool t151, .bool t152] 40 (0, 0)) (by (with_reducible repeat (first | refine blk_drewN ?_ _ | refine blk_drew ?_ | refine blk_alloc ?_ _)); refine blk_put (cs := #[.int .i64 t150, .bool t151, .bool false]) ?_ 2 _ rfl; (with_reducible repeat (first | refine blk_drewN ?_ _ | refine blk_drew ?_ | refine blk_alloc ?_ _)); refine blk_put (cs := #[.int .i64 t150, .bool false, .bool false]) ?_ 1 _ rfl; (with_reducible repeat (first | refine blk_drewN ?_ _ | refine blk_drew ?_ | refine blk_alloc ?_ _)); refine blk_put (cs := #[.int .i64 0, .bool false, .bool false]) ?_ 0 _ rfl; (with_reducible repeat (first | refine blk_drewN ?_ _ | refine blk_drew ?_ | refine blk_alloc ?_ _)); exact BK154.out) hb); have n1_ := Aside0.mk (below_step (by repeat (first | (with_reducible first | exact HB.out | apply below_alloc | apply pw_below_drewN | apply below_drew1 | refine below_set ?_ GE154.out) | exact HB.out)) hb); clear BK154; clear HB; have BK154 := n0_; have HB := n1_; clear n0_ n1_; (try clear hb); (try clear hb2); (try clear hk); (try clear hi)))
      go_ret
      exact ⟨by first | rfl | (simp [errW_none, errW_some] <;> rfl) | (simp [*, errW_none, errW_some] <;> rfl), by repeat (first | (with_reducible first | exact HB.out | apply below_alloc | apply pw_below_drewN | apply below_drew1 | refine below_set ?_ GE154.out) | exact HB.out)⟩
  · rw [if_neg c3] at H
    have c3b0 : (t153 == 0) = false := beq_eq_false_iff_ne.mpr c3
    have c3b1 : (t153 != 0) = true := bne_iff_ne.mpr c3
    obtain rfl := Option.some.inj H
    go_enter Tryd.func12, Tryd.ntmps12
    go_wp2_with (first | ((with_reducible refine gate_callee (f := 16) rfl ?_); refine goesL_ (some 6) rfl rfl Tryd.func16 (by kernel_rfl) rfl #[.string (⟨#[50, 48, 50, 48, 45, 48, 50, 45, 50, 57, 32, 50, 51, 58, 51, 48, 32, 45, 48, 49, 51, 48]⟩ : ByteArray)] rfl (by (try simp only [List.map_toArray, List.map_cons, List.map_nil]); first | done | rfl | (simp only [List.length_drop, List.length_take]; rfl)) ?_; (with_reducible refine (date_Parse.calls k (⟨#[50, 48, 50, 48, 45, 48, 50, 45, 50, 57, 32, 50, 51, 58, 51, 48, 32, 45, 48, 49, 51, 48]⟩ : ByteArray) t150 t151 t152 t153 _ A1.out).mono ?_); rintro e w25 ⟨rfl, hb⟩; refine ⟨_, rfl, ?_⟩; have n0_ := Aside0.mk (below_step (by repeat (first | (with_reducible first | exact HB.out | apply below_alloc | apply pw_below_drewN | apply below_drew1) | exact HB.out)) hb); clear HB; have HB := n0_; clear n0_; (try clear hb); (try clear hb2); (try clear hk); (try clear hi)) | ((with_reducible refine gate_dst (N := 1) rfl ?_); refine box_event ?hg (N := 1) ?hd (cs := #[.int .i64 0, .bool false, .bool false]) (t := 40) ?hr ?_; (case hd => rfl); (case hg => rfl); (case hr => first | (go_simp; done) | (go_simp; rfl)); intro gb154 hg w26 hbox hb; have n0_ := Aside0.mk (below_step (by repeat (first | (with_reducible first | exact HB.out | apply below_alloc | apply pw_below_drewN | apply below_drew1) | exact HB.out)) hb); have n1_ := Aside0.mk (hbox); have n2_ := Aside0.mk ((by rw [hg]; exact (below_size (by repeat (first | (with_reducible first | exact HB.out | apply below_alloc | apply pw_below_drewN | apply below_drew1) | exact HB.out))) : w.heap.size ≤ gb154)); have n3_ := Aside0.mk ((by rw [hg]; exact (below_size (by repeat (first | (with_reducible first | exact HB.out | apply below_alloc | apply pw_below_drewN | apply below_drew1) | exact HB.out))) : w.heap.size ≤ gb154)); clear HB; have HB := n0_; have BK154 := n1_; have GW154 := n2_; have GE154 := n3_; clear n0_ n1_ n2_ n3_; clear hb hbox hg; have hcz27_0 : w26.cell? ⟨gb154, 0, none⟩ = some (.int .i64 0) := (blk_cell BK154.out 0).trans rfl; have hcz27_1 : w26.cell? ⟨gb154, 1, none⟩ = some (.bool false) := (blk_cell BK154.out 1).trans rfl; have hcz27_2 : w26.cell? ⟨gb154, 2, none⟩ = some (.bool false) := (blk_cell BK154.out 2).trans rfl; have hfz27_0 := blk_frozen BK154.out 0; have hfz27_1 := blk_frozen BK154.out 1; have hfz27_2 := blk_frozen BK154.out 2) | ((with_reducible refine gate_callee (f := 15) rfl ?_); refine goesL_ (some 12) rfl rfl Tryd.func15 (by kernel_rfl) rfl #[.int .i64 t150] rfl (by (try simp only [List.map_toArray, List.map_cons, List.map_nil]); first | done | rfl | (simp only [List.length_drop, List.length_take]; rfl)) ?_; (with_reducible refine (date_Format.calls k t150 t155 t156 _ A2.out).mono ?_); rintro e w28 ⟨rfl, hb⟩; refine ⟨_, rfl, ?_⟩; have n0_ := Aside0.mk (blk_below (g := gb154) (o := .cells #[.int .i64 t150, .bool t151, .bool t152] 40 (0, 0)) (by (with_reducible repeat (first | refine blk_drewN ?_ _ | refine blk_drew ?_ | refine blk_alloc ?_ _)); refine blk_put (cs := #[.int .i64 t150, .bool t151, .bool false]) ?_ 2 _ rfl; (with_reducible repeat (first | refine blk_drewN ?_ _ | refine blk_drew ?_ | refine blk_alloc ?_ _)); refine blk_put (cs := #[.int .i64 t150, .bool false, .bool false]) ?_ 1 _ rfl; (with_reducible repeat (first | refine blk_drewN ?_ _ | refine blk_drew ?_ | refine blk_alloc ?_ _)); refine blk_put (cs := #[.int .i64 0, .bool false, .bool false]) ?_ 0 _ rfl; (with_reducible repeat (first | refine blk_drewN ?_ _ | refine blk_drew ?_ | refine blk_alloc ?_ _)); exact BK154.out) hb); have n1_ := Aside0.mk (below_step (by repeat (first | (with_reducible first | exact HB.out | apply below_alloc | apply pw_below_drewN | apply below_drew1 | refine below_set ?_ GE154.out) | exact HB.out)) hb); clear BK154; clear HB; have BK154 := n0_; have HB := n1_; clear n0_ n1_; (try clear hb); (try clear hb2); (try clear hk); (try clear hi)))
    go_ret
    exact ⟨by first | rfl | (simp [errW_none, errW_some] <;> rfl) | (simp [*, errW_none, errW_some] <;> rfl), by repeat (first | (with_reducible first | exact HB.out | apply below_alloc | apply pw_below_drewN | apply below_drew1 | refine below_set ?_ GE154.out) | exact HB.out)⟩

/-! ### cringlelaw06_DateDays: function 3 -/
def cringlelaw06_DateDays.f (k : Nat) (a0 : Int) (a1 : Int) (a2 : Int) : Option (Bool) := (date_Days.f a0 a1 a2).bind fun bt157 => ((cringleref06_Days.f k a0 a1 a2).bind fun bt159 => ((date_IsLeap.f a0).bind fun t161 => ((cringleref06_IsLeap.f a0).bind fun t162 => (if (t161 == t162) = true then (if bt157.1 = bt159.1 then (if bt157.2 = bt159.2 then ((cringlelaw06_alive.f k).bind fun t163 => (some t163)) else (some false)) else (some false)) else (some false)))))
theorem cringlelaw06_DateDays.mono : ∀ a0 a1 a2 k, LeO (cringlelaw06_DateDays.f k a0 a1 a2) (cringlelaw06_DateDays.f (k + 1) a0 a1 a2) := by
  intro a0 a1 a2 k
  unfold cringlelaw06_DateDays.f
  repeat' first
      | (with_reducible exact cringlelaw06_alive.mono _)
      | (with_reducible exact cringleref06_Days.mono _ _ _ _)
      | (with_reducible exact LeO.refl _)
      | (with_reducible exact LeO.none _)
      | (with_reducible refine LeO.ite ?_ ?_)
      | (with_reducible refine LeO.bind ?_ (fun _ => ?_))
      | exact cringlelaw06_alive.mono _
      | exact cringleref06_Days.mono _ _ _ _
      | exact LeO.none _
      | refine LeO.ite ?_ ?_
      | refine LeO.bind ?_ (fun _ => ?_)
set_option maxHeartbeats 8000000 in
set_option maxRecDepth 100000 in
theorem cringlelaw06_DateDays.calls (k : Nat) (a0 : Int) (a1 : Int) (a2 : Int) (r : Bool) (w : World) (h : cringlelaw06_DateDays.f k a0 a1 a2 = some r) (htrue : Aside0 (r = true)) :
    Calls Tryd.prog 3 #[.int .i64 a0, .int .i64 a1, .int .i64 a2] w fun e w' => e = .returned (.bool r) ∧ Below w.heap.size w w' := by
  have HB := Aside0.mk (Below.refl w.heap.size w)
  have H : ((date_Days.f a0 a1 a2).bind fun bt157 => ((cringleref06_Days.f k a0 a1 a2).bind fun bt159 => ((date_IsLeap.f a0).bind fun t161 => ((cringleref06_IsLeap.f a0).bind fun t162 => (if (t161 == t162) = true then (if bt157.1 = bt159.1 then (if bt157.2 = bt159.2 then ((cringlelaw06_alive.f k).bind fun t163 => (some t163)) else (some false)) else (some false)) else (some false)))))) = some r := h
  clear h
  replace H := Option.bind_eq_some_iff.mp H
  obtain ⟨⟨t157, t158⟩, A40, H⟩ := H
  replace H : ((cringleref06_Days.f k a0 a1 a2).bind fun bt159 => ((date_IsLeap.f a0).bind fun t161 => ((cringleref06_IsLeap.f a0).bind fun t162 => (if (t161 == t162) = true then (if t157 = bt159.1 then (if t158 = bt159.2 then ((cringlelaw06_alive.f k).bind fun t163 => (some t163)) else (some false)) else (some false)) else (some false))))) = some r := H
  have A4 := Aside0.mk A40
  clear A40
  replace H := Option.bind_eq_some_iff.mp H
  obtain ⟨⟨t159, t160⟩, A50, H⟩ := H
  replace H : ((date_IsLeap.f a0).bind fun t161 => ((cringleref06_IsLeap.f a0).bind fun t162 => (if (t161 == t162) = true then (if t157 = t159 then (if t158 = t160 then ((cringlelaw06_alive.f k).bind fun t163 => (some t163)) else (some false)) else (some false)) else (some false)))) = some r := H
  have A5 := Aside0.mk A50
  clear A50
  replace H := Option.bind_eq_some_iff.mp H
  obtain ⟨t161, A60, H⟩ := H
  replace H : ((cringleref06_IsLeap.f a0).bind fun t162 => (if (t161 == t162) = true then (if t157 = t159 then (if t158 = t160 then ((cringlelaw06_alive.f k).bind fun t163 => (some t163)) else (some false)) else (some false)) else (some false))) = some r := H
  have A6 := Aside0.mk A60
  clear A60
  replace H := Option.bind_eq_some_iff.mp H
  obtain ⟨t162, A70, H⟩ := H
  replace H : (if (t161 == t162) = true then (if t157 = t159 then (if t158 = t160 then ((cringlelaw06_alive.f k).bind fun t163 => (some t163)) else (some false)) else (some false)) else (some false)) = some r := H
  have A7 := Aside0.mk A70
  clear A70
  by_cases c8 : (t161 == t162) = true
  · rw [if_pos c8] at H
    have c8b0 : (t161 == t162) = true := c8
    (try (have c8b1 : decide (t161 = t162) = true := by simpa using c8))
    (try (have c8b2 : (t161 == t162) = true := by simpa using c8))
    clear c8
    by_cases c9 : t157 = t159
    · rw [if_pos c9] at H
      have c9b0 : (t157 == t159) = true := beq_iff_eq.mpr c9
      have c9b1 : (t157 != t159) = false := bne_eq_false_iff_eq.mpr c9
      clear c9
      by_cases c10 : t158 = t160
      · rw [if_pos c10] at H
        have c10b0 : (t158 == t160) = true := beq_iff_eq.mpr c10
        have c10b1 : (t158 != t160) = false := bne_eq_false_iff_eq.mpr c10
        clear c10
        replace H := Option.bind_eq_some_iff.mp H
        obtain ⟨t163, A110, H⟩ := H
        replace H : (some t163) = some r := H
        have A11 := Aside0.mk A110
        clear A110
        obtain rfl := Option.some.inj H
        go_enter Tryd.func3, Tryd.ntmps3
        go_wp2_with (first | ((with_reducible refine gate_callee (f := 8) rfl ?_); refine goesL_ (some 15) rfl rfl Tryd.func8 (by kernel_rfl) rfl #[.int .i64 a0, .int .i64 a1, .int .i64 a2] rfl (by (try simp only [List.map_toArray, List.map_cons, List.map_nil]); first | done | rfl | (simp only [List.length_drop, List.length_take]; rfl)) ?_; (with_reducible refine (date_Days.calls a0 a1 a2 t157 t158 _ A4.out).mono ?_); rintro e w12 ⟨rfl, hb⟩; refine ⟨_, rfl, ?_⟩; have n0_ := Aside0.mk (below_step (by repeat (first | (with_reducible first | exact HB.out | apply below_alloc | apply pw_below_drewN | apply below_drew1) | exact HB.out)) hb); clear HB; have HB := n0_; clear n0_; (try clear hb); (try clear hb2); (try clear hk); (try clear hi)) | ((with_reducible refine gate_callee (f := 9) rfl ?_); refine goesL_ (some 22) rfl rfl Tryd.func9 (by kernel_rfl) rfl #[.int .i64 a0, .int .i64 a1, .int .i64 a2] rfl (by (try simp only [List.map_toArray, List.map_cons, List.map_nil]); first | done | rfl | (simp only [List.length_drop, List.length_take]; rfl)) ?_; (with_reducible refine (cringleref06_Days.calls k a0 a1 a2 t159 t160 _ A5.out).mono ?_); rintro e w' ⟨rfl, ⟨nd, rfl⟩⟩; refine ⟨_, rfl, ?_⟩) | ((with_reducible refine gate_callee (f := 10) rfl ?_); refine goesL_ (some 26) rfl rfl Tryd.func10 (by kernel_rfl) rfl #[.int .i64 a0] rfl (by (try simp only [List.map_toArray, List.map_cons, List.map_nil]); first | done | rfl | (simp only [List.length_drop, List.length_take]; rfl)) ?_; (with_reducible refine (date_IsLeap.calls a0 t161 _ A6.out).mono ?_); rintro e w' ⟨rfl, ⟨nd, rfl⟩⟩; refine ⟨_, rfl, ?_⟩) | ((with_reducible refine gate_callee (f := 11) rfl ?_); refine goesL_ (some 28) rfl rfl Tryd.func11 (by kernel_rfl) rfl #[.int .i64 a0] rfl (by (try simp only [List.map_toArray, List.map_cons, List.map_nil]); first | done | rfl | (simp only [List.length_drop, List.length_take]; rfl)) ?_; (with_reducible refine (cringleref06_IsLeap.calls a0 t162 _ A7.out).mono ?_); rintro e w' ⟨rfl, ⟨nd, rfl⟩⟩; refine ⟨_, rfl, ?_⟩) | (go_at_call 12; (with_reducible refine (cringlelaw06_alive.calls k  t163 _ A11.out).mono ?_); rintro e w13 ⟨rfl, hb⟩; have n0_ := Aside0.mk (below_step (by repeat (first | (with_reducible first | exact HB.out | apply below_alloc | apply pw_below_drewN | apply below_drew1) | exact HB.out)) hb); clear HB; have HB := n0_; clear n0_; (try clear hb); (try clear hb2); (try clear hk); (try clear hi)))
        go_ret
        exact ⟨by first | rfl | (simp [errW_none, errW_some] <;> rfl) | (simp [*, errW_none, errW_some] <;> rfl), by repeat (first | (with_reducible first | exact HB.out | apply below_alloc | apply pw_below_drewN | apply below_drew1) | exact HB.out)⟩
      · rw [if_neg c10] at H
        have c10b0 : (t158 == t160) = false := beq_eq_false_iff_ne.mpr c10
        have c10b1 : (t158 != t160) = true := bne_iff_ne.mpr c10
        exact absurd (Option.some.inj H) (by rw [htrue.out]; decide)
    · rw [if_neg c9] at H
      have c9b0 : (t157 == t159) = false := beq_eq_false_iff_ne.mpr c9
      have c9b1 : (t157 != t159) = true := bne_iff_ne.mpr c9
      exact absurd (Option.some.inj H) (by rw [htrue.out]; decide)
  · rw [if_neg c8] at H
    have c8b0 : (t161 == t162) = false := by simpa using c8
    (try (have c8b1 : decide (t161 = t162) = false := by simpa using c8))
    (try (have c8b2 : (t161 == t162) = false := by simpa using c8))
    (try (have c8b3 : ¬ (t161 = t162) := by simpa using c8))
    clear c8
    exact absurd (Option.some.inj H) (by rw [htrue.out]; decide)

/-! ### cringleref06_Civil: function 14 -/
mutual
def cringleref06_Civil.j0 : Nat → Int → Int → Bool → Option (Int × Int × Int × Int)
  | 0, _, _, _ => none
  | k + 1, x0, x6, x22 => if x22 = true then (some (0, 0, 0, 3)) else (cringleref06_Civil.l0 k (wrap64 (x0 - x6)) 1)
def cringleref06_Civil.l0 : Nat → Int → Int → Option (Int × Int × Int × Int)
  | 0, _, _ => none
  | k + 1, x8, x9 => (cringleref06_year.f x9).bind fun t166 => (if x8 ≥ t166 then ((cringleref06_year.f x9).bind fun t167 => (cringleref06_Civil.l0 k (wrap64 (x8 - t167)) (wrap64 (x9 + 1)))) else (cringleref06_Civil.l1 k x8 x9 1))
def cringleref06_Civil.l1 : Nat → Int → Int → Int → Option (Int × Int × Int × Int)
  | 0, _, _, _ => none
  | k + 1, x8, x9, x10 => (cringleref06_month.f x9 x10).bind fun t168 => (if x8 ≥ t168 then ((cringleref06_month.f x9 x10).bind fun t169 => (cringleref06_Civil.l1 k (wrap64 (x8 - t169)) x9 (wrap64 (x10 + 1)))) else (some (x9, x10, wrap64 (x8 + 1), 0)))
end
def cringleref06_Civil.f (k : Nat) (a0 : Int) : Option (Int × Int × Int × Int) := (cringleref06_ends.f k).bind fun bt164 => (if a0 < bt164.1 then (cringleref06_Civil.j0 k a0 bt164.1 true) else (cringleref06_Civil.j0 k a0 bt164.1 (decide (a0 > bt164.2))))
theorem cringleref06_Civil.mono_l : ∀ k, (∀ y0 y1 y2, LeO (cringleref06_Civil.j0 k y0 y1 y2) (cringleref06_Civil.j0 (k + 1) y0 y1 y2)) ∧ (∀ y0 y1, LeO (cringleref06_Civil.l0 k y0 y1) (cringleref06_Civil.l0 (k + 1) y0 y1)) ∧ (∀ y0 y1 y2, LeO (cringleref06_Civil.l1 k y0 y1 y2) (cringleref06_Civil.l1 (k + 1) y0 y1 y2))
  | 0 => ⟨fun _ _ _ r h => by simp [cringleref06_Civil.j0] at h, fun _ _ r h => by simp [cringleref06_Civil.l0] at h, fun _ _ _ r h => by simp [cringleref06_Civil.l1] at h⟩
  | k + 1 => by
    obtain ⟨ih0, ih1, ih2⟩ := cringleref06_Civil.mono_l k
    refine ⟨?_, ?_, ?_⟩
    · intro y0 y1 y2
      unfold cringleref06_Civil.j0
      repeat' first
      | (with_reducible exact ih0 _ _ _)
      | (with_reducible exact ih1 _ _)
      | (with_reducible exact ih2 _ _ _)
      | (with_reducible exact cringleref06_ends.mono _)
      | (with_reducible exact LeO.refl _)
      | (with_reducible exact LeO.none _)
      | (with_reducible refine LeO.ite ?_ ?_)
      | (with_reducible refine LeO.bind ?_ (fun _ => ?_))
      | exact ih0 _ _ _
      | exact ih1 _ _
      | exact ih2 _ _ _
      | exact cringleref06_ends.mono _
      | exact LeO.none _
      | refine LeO.ite ?_ ?_
      | refine LeO.bind ?_ (fun _ => ?_)
    · intro y0 y1
      unfold cringleref06_Civil.l0
      repeat' first
      | (with_reducible exact ih0 _ _ _)
      | (with_reducible exact ih1 _ _)
      | (with_reducible exact ih2 _ _ _)
      | (with_reducible exact cringleref06_ends.mono _)
      | (with_reducible exact LeO.refl _)
      | (with_reducible exact LeO.none _)
      | (with_reducible refine LeO.ite ?_ ?_)
      | (with_reducible refine LeO.bind ?_ (fun _ => ?_))
      | exact ih0 _ _ _
      | exact ih1 _ _
      | exact ih2 _ _ _
      | exact cringleref06_ends.mono _
      | exact LeO.none _
      | refine LeO.ite ?_ ?_
      | refine LeO.bind ?_ (fun _ => ?_)
    · intro y0 y1 y2
      unfold cringleref06_Civil.l1
      repeat' first
      | (with_reducible exact ih0 _ _ _)
      | (with_reducible exact ih1 _ _)
      | (with_reducible exact ih2 _ _ _)
      | (with_reducible exact cringleref06_ends.mono _)
      | (with_reducible exact LeO.refl _)
      | (with_reducible exact LeO.none _)
      | (with_reducible refine LeO.ite ?_ ?_)
      | (with_reducible refine LeO.bind ?_ (fun _ => ?_))
      | exact ih0 _ _ _
      | exact ih1 _ _
      | exact ih2 _ _ _
      | exact cringleref06_ends.mono _
      | exact LeO.none _
      | refine LeO.ite ?_ ?_
      | refine LeO.bind ?_ (fun _ => ?_)
theorem cringleref06_Civil.mono : ∀ a0 k, LeO (cringleref06_Civil.f k a0) (cringleref06_Civil.f (k + 1) a0) := by
  intro a0 k
  obtain ⟨ih0, ih1, ih2⟩ := cringleref06_Civil.mono_l k
  unfold cringleref06_Civil.f
  repeat' first
      | (with_reducible exact ih0 _ _ _)
      | (with_reducible exact ih1 _ _)
      | (with_reducible exact ih2 _ _ _)
      | (with_reducible exact cringleref06_ends.mono _)
      | (with_reducible exact LeO.refl _)
      | (with_reducible exact LeO.none _)
      | (with_reducible refine LeO.ite ?_ ?_)
      | (with_reducible refine LeO.bind ?_ (fun _ => ?_))
      | exact ih0 _ _ _
      | exact ih1 _ _
      | exact ih2 _ _ _
      | exact cringleref06_ends.mono _
      | exact LeO.none _
      | refine LeO.ite ?_ ?_
      | refine LeO.bind ?_ (fun _ => ?_)
set_option maxHeartbeats 8000000 in
set_option maxRecDepth 100000 in
theorem cringleref06_Civil.calls (k : Nat) (a0 : Int) (r1 : Int) (r2 : Int) (r3 : Int) (r4 : Int) (w : World) (h : cringleref06_Civil.f k a0 = some (r1, r2, r3, r4)) :
    Calls Tryd.prog 14 #[.int .i64 a0] w fun e w' => e = .returned (.tuple #[.int .i64 r1, .int .i64 r2, .int .i64 r3, .int .i64 r4]) ∧ Drawn0 w w' := by
  have H : ((cringleref06_ends.f k).bind fun bt164 => (if a0 < bt164.1 then (cringleref06_Civil.j0 k a0 bt164.1 true) else (cringleref06_Civil.j0 k a0 bt164.1 (decide (a0 > bt164.2))))) = some (r1, r2, r3, r4) := h
  clear h
  replace H := Option.bind_eq_some_iff.mp H
  obtain ⟨⟨t164, t165⟩, A20, H⟩ := H
  replace H : (if a0 < t164 then (cringleref06_Civil.j0 k a0 t164 true) else (cringleref06_Civil.j0 k a0 t164 (decide (a0 > t165)))) = some (r1, r2, r3, r4) := H
  have A2 := Aside0.mk A20
  clear A20
  have HC3 := Aside0.mk H
  clear H
  go_enter Tryd.func14, Tryd.ntmps14
  go_upto_region 2 with (first | ((with_reducible refine gate_callee (f := 22) rfl ?_); refine goesL_ (some 12) rfl rfl Tryd.func22 (by kernel_rfl) rfl #[] rfl (by (try simp only [List.map_toArray, List.map_cons, List.map_nil]); first | done | rfl | (simp only [List.length_drop, List.length_take]; rfl)) ?_; (with_reducible refine (cringleref06_ends.calls k  t164 t165 _ A2.out).mono ?_); rintro e w' ⟨rfl, ⟨nd, rfl⟩⟩; refine ⟨_, rfl, ?_⟩))
  (try simp only [Act.put, List.setIfInBounds_toArray, List.set_cons_zero, List.set_cons_succ])
  go_cut [22] (fun v22 wc => ∃ (kq : Nat) (x22_2 : Bool), v22 = .bool x22_2 ∧ Aside0 (cringleref06_Civil.j0 kq a0 t164 x22_2 = some (r1, r2, r3, r4)) ∧ Aside0 (kq ≤ k) ∧ Drawn0 w wc)
  case first =>
    have H := HC3.out
    clear HC3
    by_cases c4 : a0 < t164
    · rw [if_pos c4] at H
      have c4b0 : decide (a0 < t164) = true := decide_eq_true c4
      clear c4
      (first | rw [c4b0] | (simp only [i64_w, i32_w]; rw [c4b0]) | skip)
      have H' := Aside0.mk H
      clear H
      go_wp2
      go_meet
      case rel => exact ⟨_, (true), (by first | rfl | (simp; done) | (simp [*]; done) | (simp; unfold wrap64; omega)), H', ⟨by first | omega | exact Nat.le_refl _⟩, by repeat (first | exact Drawn0.refl _ | apply Drawn0.step)⟩
    · rw [if_neg c4] at H
      have c4b0 : decide (a0 < t164) = false := decide_eq_false c4
      clear c4
      (first | rw [c4b0] | (simp only [i64_w, i32_w]; rw [c4b0]) | skip)
      have H' := Aside0.mk H
      clear H
      go_wp2
      go_meet
      case rel => exact ⟨_, (decide (a0 > t165)), (by first | rfl | (simp; done) | (simp [*]; done) | (simp; unfold wrap64; omega)), H', ⟨by first | omega | exact Nat.le_refl _⟩, by repeat (first | exact Drawn0.refl _ | apply Drawn0.step)⟩
  case rest =>
    clear HC3
    try clear c1
    try clear c2
    try clear p2
    try clear c4
    try clear c4b0
    obtain ⟨kq, x22_2, rfl, HA, HJ2, ⟨mc2, rfl⟩⟩ := hcut
    cases kq with
    | zero => exact absurd HA.out (by simp [cringleref06_Civil.j0])
    | succ kj2 =>
      have H := HA.out
      clear HA
      simp only [cringleref06_Civil.j0] at H
      by_cases c5 : x22_2 = true
      · subst c5
        have H1 : (some (0, 0, 0, 3)) = some (r1, r2, r3, r4) := by rw [if_pos rfl] at H; exact H
        clear H
        have H := H1
        clear H1
        simp only [Option.some.injEq, Prod.mk.injEq] at H
        obtain ⟨rfl, rfl, rfl, rfl⟩ := H
        go_wp2
        refine bodyPost_ret (results_list (rs := [.tmp 2, .tmp 3, .tmp 4, .tmp 5]) rfl (by simp) (.tmp (.tmp (.tmp (.tmp .nil))))) rfl ?_
        exact ⟨by first | rfl | (simp; done) | (simp [*]; done) | (simp; unfold wrap64; omega), by repeat (first | exact Drawn0.refl _ | apply Drawn0.step)⟩
      · replace c5 := Bool.eq_false_iff.mpr c5
        subst c5
        have H1 : (cringleref06_Civil.l0 kj2 (wrap64 (a0 - t164)) 1) = some (r1, r2, r3, r4) := by rw [if_neg (show ¬ (false = true) by decide)] at H; exact H
        clear H
        have H := H1
        clear H1
        have H' := Aside0.mk H
        clear H
        go_wp2
        go_loopg [8, 9] kj2 (fun kq v8 v9 w' => ∃ (x8_2 : Int) (x9_2 : Int), v8 = .int .i64 x8_2 ∧ v9 = .int .i64 x9_2 ∧ Aside0 (cringleref06_Civil.l0 kq x8_2 x9_2 = some (r1, r2, r3, r4)) ∧ Aside0 (kq ≤ kj2) ∧ Drawn0 w w')
        case atStart => exact ⟨(wrap64 (a0 - t164)), (1), (by first | rfl | (simp; done) | (simp [*]; done) | (simp; unfold wrap64; omega)), (by first | rfl | (simp; done) | (simp [*]; done) | (simp; unfold wrap64; omega)), H', ⟨Nat.le_refl _⟩, by repeat (first | exact Drawn0.refl _ | apply Drawn0.step)⟩
        case round =>
          clear H'
          try clear c1
          try clear c2
          try clear p2
          try clear c4
          try clear c4b0
          try clear c5
          try clear p2
          obtain ⟨x8_2, x9_2, rfl, rfl, HA, HK2, ⟨m2, rfl⟩⟩ := hrel
          cases gk with
          | zero => exact absurd HA.out (by simp [cringleref06_Civil.l0])
          | succ k2 =>
            have H := HA.out
            clear HA
            simp only [cringleref06_Civil.l0] at H
            replace H := Option.bind_eq_some_iff.mp H
            obtain ⟨t166, A60, H⟩ := H
            replace H : (if x8_2 ≥ t166 then ((cringleref06_year.f x9_2).bind fun t167 => (cringleref06_Civil.l0 k2 (wrap64 (x8_2 - t167)) (wrap64 (x9_2 + 1)))) else (cringleref06_Civil.l1 k2 x8_2 x9_2 1)) = some (r1, r2, r3, r4) := H
            have A6 := Aside0.mk A60
            clear A60
            by_cases c7 : x8_2 ≥ t166
            · rw [if_pos c7] at H
              have c7b0 : decide (t166 ≤ x8_2) = true := decide_eq_true c7
              clear c7
              replace H := Option.bind_eq_some_iff.mp H
              obtain ⟨t167, A80, H⟩ := H
              replace H : (cringleref06_Civil.l0 k2 (wrap64 (x8_2 - t167)) (wrap64 (x9_2 + 1))) = some (r1, r2, r3, r4) := H
              have A8 := Aside0.mk A80
              clear A80
              have H' := Aside0.mk H
              clear H
              go_wp2_with (first | ((with_reducible refine gate_callee (f := 23) rfl ?_); refine goesL_ (some 28) rfl rfl Tryd.func23 (by kernel_rfl) rfl #[.int .i64 x9_2] rfl (by (try simp only [List.map_toArray, List.map_cons, List.map_nil]); first | done | rfl | (simp only [List.length_drop, List.length_take]; rfl)) ?_; (with_reducible refine (cringleref06_year.calls x9_2 t166 _ A6.out).mono ?_); rintro e w' ⟨rfl, ⟨nd, rfl⟩⟩; refine ⟨_, rfl, ?_⟩) | ((with_reducible refine gate_callee (f := 23) rfl ?_); refine goesL_ (some 32) rfl rfl Tryd.func23 (by kernel_rfl) rfl #[.int .i64 x9_2] rfl (by (try simp only [List.map_toArray, List.map_cons, List.map_nil]); first | done | rfl | (simp only [List.length_drop, List.length_take]; rfl)) ?_; (with_reducible refine (cringleref06_year.calls x9_2 t167 _ A8.out).mono ?_); rintro e w' ⟨rfl, ⟨nd, rfl⟩⟩; refine ⟨_, rfl, ?_⟩))
              go_roundg k2
              case measure => have := HJ2.out; have := HK2.out; omega
              case rel => exact ⟨(wrap64 (x8_2 - t167)), (wrap64 (x9_2 + 1)), (by first | rfl | (simp; done) | (simp [*]; done) | (simp; unfold wrap64; omega)), (by first | rfl | (simp; done) | (simp [*]; done) | (simp; unfold wrap64; omega)), H', ⟨by have := HJ2.out; have := HK2.out; omega⟩, by repeat (first | exact Drawn0.refl _ | apply Drawn0.step)⟩
            · rw [if_neg c7] at H
              have c7b0 : decide (t166 ≤ x8_2) = false := decide_eq_false c7
              clear c7
              have H' := Aside0.mk H
              clear H
              go_wp2_with (first | ((with_reducible refine gate_callee (f := 23) rfl ?_); refine goesL_ (some 28) rfl rfl Tryd.func23 (by kernel_rfl) rfl #[.int .i64 x9_2] rfl (by (try simp only [List.map_toArray, List.map_cons, List.map_nil]); first | done | rfl | (simp only [List.length_drop, List.length_take]; rfl)) ?_; (with_reducible refine (cringleref06_year.calls x9_2 t166 _ A6.out).mono ?_); rintro e w' ⟨rfl, ⟨nd, rfl⟩⟩; refine ⟨_, rfl, ?_⟩))
              go_loopg [8, 10] k2 (fun kq v8 v10 w' => ∃ (x8_3 : Int) (x10_3 : Int), v8 = .int .i64 x8_3 ∧ v10 = .int .i64 x10_3 ∧ Aside0 (cringleref06_Civil.l1 kq x8_3 x9_2 x10_3 = some (r1, r2, r3, r4)) ∧ Aside0 (kq ≤ k2) ∧ Drawn0 w w')
              case atStart => exact ⟨(x8_2), (1), (by first | rfl | (simp; done) | (simp [*]; done) | (simp; unfold wrap64; omega)), (by first | rfl | (simp; done) | (simp [*]; done) | (simp; unfold wrap64; omega)), H', ⟨Nat.le_refl _⟩, by repeat (first | exact Drawn0.refl _ | apply Drawn0.step)⟩
              case round =>
                clear H'
                try clear c1
                try clear c2
                try clear p2
                try clear c4
                try clear c4b0
                try clear c5
                try clear p6
                try clear c7
                try clear c7b0
                try clear p2
                obtain ⟨x8_3, x10_3, rfl, rfl, HA, HK3, ⟨m3, rfl⟩⟩ := hrel
                cases gk with
                | zero => exact absurd HA.out (by simp [cringleref06_Civil.l1])
                | succ k3 =>
                  have H := HA.out
                  clear HA
                  simp only [cringleref06_Civil.l1] at H
                  replace H := Option.bind_eq_some_iff.mp H
                  obtain ⟨t168, A90, H⟩ := H
                  replace H : (if x8_3 ≥ t168 then ((cringleref06_month.f x9_2 x10_3).bind fun t169 => (cringleref06_Civil.l1 k3 (wrap64 (x8_3 - t169)) x9_2 (wrap64 (x10_3 + 1)))) else (some (x9_2, x10_3, wrap64 (x8_3 + 1), 0))) = some (r1, r2, r3, r4) := H
                  have A9 := Aside0.mk A90
                  clear A90
                  by_cases c10 : x8_3 ≥ t168
                  · rw [if_pos c10] at H
                    have c10b0 : decide (t168 ≤ x8_3) = true := decide_eq_true c10
                    clear c10
                    replace H := Option.bind_eq_some_iff.mp H
                    obtain ⟨t169, A110, H⟩ := H
                    replace H : (cringleref06_Civil.l1 k3 (wrap64 (x8_3 - t169)) x9_2 (wrap64 (x10_3 + 1))) = some (r1, r2, r3, r4) := H
                    have A11 := Aside0.mk A110
                    clear A110
                    have H' := Aside0.mk H
                    clear H
                    go_wp2_with (first | ((with_reducible refine gate_callee (f := 21) rfl ?_); refine goesL_ (some 39) rfl rfl Tryd.func21 (by kernel_rfl) rfl #[.int .i64 x9_2, .int .i64 x10_3] rfl (by (try simp only [List.map_toArray, List.map_cons, List.map_nil]); first | done | rfl | (simp only [List.length_drop, List.length_take]; rfl)) ?_; (with_reducible refine (cringleref06_month.calls x9_2 x10_3 t168 _ A9.out).mono ?_); rintro e w' ⟨rfl, ⟨nd, rfl⟩⟩; refine ⟨_, rfl, ?_⟩) | ((with_reducible refine gate_callee (f := 21) rfl ?_); refine goesL_ (some 44) rfl rfl Tryd.func21 (by kernel_rfl) rfl #[.int .i64 x9_2, .int .i64 x10_3] rfl (by (try simp only [List.map_toArray, List.map_cons, List.map_nil]); first | done | rfl | (simp only [List.length_drop, List.length_take]; rfl)) ?_; (with_reducible refine (cringleref06_month.calls x9_2 x10_3 t169 _ A11.out).mono ?_); rintro e w' ⟨rfl, ⟨nd, rfl⟩⟩; refine ⟨_, rfl, ?_⟩))
                    go_roundg k3
                    case measure => have := HJ2.out; have := HK2.out; have := HK3.out; omega
                    case rel => exact ⟨(wrap64 (x8_3 - t169)), (wrap64 (x10_3 + 1)), (by first | rfl | (simp; done) | (simp [*]; done) | (simp; unfold wrap64; omega)), (by first | rfl | (simp; done) | (simp [*]; done) | (simp; unfold wrap64; omega)), H', ⟨by have := HJ2.out; have := HK2.out; have := HK3.out; omega⟩, by repeat (first | exact Drawn0.refl _ | apply Drawn0.step)⟩
                  · rw [if_neg c10] at H
                    have c10b0 : decide (t168 ≤ x8_3) = false := decide_eq_false c10
                    clear c10
                    simp only [Option.some.injEq, Prod.mk.injEq] at H
                    obtain ⟨rfl, rfl, rfl, rfl⟩ := H
                    go_wp2_with (first | ((with_reducible refine gate_callee (f := 21) rfl ?_); refine goesL_ (some 39) rfl rfl Tryd.func21 (by kernel_rfl) rfl #[.int .i64 x9_2, .int .i64 x10_3] rfl (by (try simp only [List.map_toArray, List.map_cons, List.map_nil]); first | done | rfl | (simp only [List.length_drop, List.length_take]; rfl)) ?_; (with_reducible refine (cringleref06_month.calls x9_2 x10_3 t168 _ A9.out).mono ?_); rintro e w' ⟨rfl, ⟨nd, rfl⟩⟩; refine ⟨_, rfl, ?_⟩))
                    refine bodyPost_ret (results_list (rs := [.tmp 2, .tmp 3, .tmp 4, .tmp 5]) rfl (by simp) (.tmp (.tmp (.tmp (.tmp .nil))))) rfl ?_
                    exact ⟨by first | rfl | (simp; done) | (simp [*]; done) | (simp; unfold wrap64; omega), by repeat (first | exact Drawn0.refl _ | apply Drawn0.step)⟩

/-! ### cringlelaw06_DateCivil: function 4 -/
def cringlelaw06_DateCivil.f (k : Nat) (a0 : Int) : Option (Bool) := (date_Civil.f k a0).bind fun bt170 => ((cringleref06_Civil.f k a0).bind fun bt174 => (if bt170.1 = bt174.1 then (if bt170.2.1 = bt174.2.1 then (if bt170.2.2.1 = bt174.2.2.1 then (if bt170.2.2.2 = bt174.2.2.2 then ((cringlelaw06_alive.f k).bind fun t178 => (some t178)) else (some false)) else (some false)) else (some false)) else (some false)))
theorem cringlelaw06_DateCivil.mono : ∀ a0 k, LeO (cringlelaw06_DateCivil.f k a0) (cringlelaw06_DateCivil.f (k + 1) a0) := by
  intro a0 k
  unfold cringlelaw06_DateCivil.f
  repeat' first
      | (with_reducible exact cringlelaw06_alive.mono _)
      | (with_reducible exact cringleref06_Civil.mono _ _)
      | (with_reducible exact date_Civil.mono _ _)
      | (with_reducible exact LeO.refl _)
      | (with_reducible exact LeO.none _)
      | (with_reducible refine LeO.ite ?_ ?_)
      | (with_reducible refine LeO.bind ?_ (fun _ => ?_))
      | exact cringlelaw06_alive.mono _
      | exact cringleref06_Civil.mono _ _
      | exact date_Civil.mono _ _
      | exact LeO.none _
      | refine LeO.ite ?_ ?_
      | refine LeO.bind ?_ (fun _ => ?_)
set_option maxHeartbeats 8000000 in
set_option maxRecDepth 100000 in
theorem cringlelaw06_DateCivil.calls (k : Nat) (a0 : Int) (r : Bool) (w : World) (h : cringlelaw06_DateCivil.f k a0 = some r) (htrue : Aside0 (r = true)) :
    Calls Tryd.prog 4 #[.int .i64 a0] w fun e w' => e = .returned (.bool r) ∧ Below w.heap.size w w' := by
  have HB := Aside0.mk (Below.refl w.heap.size w)
  have H : ((date_Civil.f k a0).bind fun bt170 => ((cringleref06_Civil.f k a0).bind fun bt174 => (if bt170.1 = bt174.1 then (if bt170.2.1 = bt174.2.1 then (if bt170.2.2.1 = bt174.2.2.1 then (if bt170.2.2.2 = bt174.2.2.2 then ((cringlelaw06_alive.f k).bind fun t178 => (some t178)) else (some false)) else (some false)) else (some false)) else (some false)))) = some r := h
  clear h
  replace H := Option.bind_eq_some_iff.mp H
  obtain ⟨⟨t170, t171, t172, t173⟩, A20, H⟩ := H
  replace H : ((cringleref06_Civil.f k a0).bind fun bt174 => (if t170 = bt174.1 then (if t171 = bt174.2.1 then (if t172 = bt174.2.2.1 then (if t173 = bt174.2.2.2 then ((cringlelaw06_alive.f k).bind fun t178 => (some t178)) else (some false)) else (some false)) else (some false)) else (some false))) = some r := H
  have A2 := Aside0.mk A20
  clear A20
  replace H := Option.bind_eq_some_iff.mp H
  obtain ⟨⟨t174, t175, t176, t177⟩, A30, H⟩ := H
  replace H : (if t170 = t174 then (if t171 = t175 then (if t172 = t176 then (if t173 = t177 then ((cringlelaw06_alive.f k).bind fun t178 => (some t178)) else (some false)) else (some false)) else (some false)) else (some false)) = some r := H
  have A3 := Aside0.mk A30
  clear A30
  by_cases c4 : t170 = t174
  · rw [if_pos c4] at H
    have c4b0 : (t170 == t174) = true := beq_iff_eq.mpr c4
    have c4b1 : (t170 != t174) = false := bne_eq_false_iff_eq.mpr c4
    clear c4
    by_cases c5 : t171 = t175
    · rw [if_pos c5] at H
      have c5b0 : (t171 == t175) = true := beq_iff_eq.mpr c5
      have c5b1 : (t171 != t175) = false := bne_eq_false_iff_eq.mpr c5
      clear c5
      by_cases c6 : t172 = t176
      · rw [if_pos c6] at H
        have c6b0 : (t172 == t176) = true := beq_iff_eq.mpr c6
        have c6b1 : (t172 != t176) = false := bne_eq_false_iff_eq.mpr c6
        clear c6
        by_cases c7 : t173 = t177
        · rw [if_pos c7] at H
          have c7b0 : (t173 == t177) = true := beq_iff_eq.mpr c7
          have c7b1 : (t173 != t177) = false := bne_eq_false_iff_eq.mpr c7
          clear c7
          replace H := Option.bind_eq_some_iff.mp H
          obtain ⟨t178, A80, H⟩ := H
          replace H : (some t178) = some r := H
          have A8 := Aside0.mk A80
          clear A80
          obtain rfl := Option.some.inj H
          go_enter Tryd.func4, Tryd.ntmps4
          go_wp2_with (first | ((with_reducible refine gate_callee (f := 13) rfl ?_); refine goesL_ (some 13) rfl rfl Tryd.func13 (by kernel_rfl) rfl #[.int .i64 a0] rfl (by (try simp only [List.map_toArray, List.map_cons, List.map_nil]); first | done | rfl | (simp only [List.length_drop, List.length_take]; rfl)) ?_; (with_reducible refine (date_Civil.calls k a0 t170 t171 t172 t173 _ A2.out).mono ?_); rintro e w9 ⟨rfl, hb⟩; refine ⟨_, rfl, ?_⟩; have n0_ := Aside0.mk (below_step (by repeat (first | (with_reducible first | exact HB.out | apply below_alloc | apply pw_below_drewN | apply below_drew1) | exact HB.out)) hb); clear HB; have HB := n0_; clear n0_; (try clear hb); (try clear hb2); (try clear hk); (try clear hi)) | ((with_reducible refine gate_callee (f := 14) rfl ?_); refine goesL_ (some 20) rfl rfl Tryd.func14 (by kernel_rfl) rfl #[.int .i64 a0] rfl (by (try simp only [List.map_toArray, List.map_cons, List.map_nil]); first | done | rfl | (simp only [List.length_drop, List.length_take]; rfl)) ?_; (with_reducible refine (cringleref06_Civil.calls k a0 t174 t175 t176 t177 _ A3.out).mono ?_); rintro e w' ⟨rfl, ⟨nd, rfl⟩⟩; refine ⟨_, rfl, ?_⟩) | (go_at_call 12; (with_reducible refine (cringlelaw06_alive.calls k  t178 _ A8.out).mono ?_); rintro e w10 ⟨rfl, hb⟩; have n0_ := Aside0.mk (below_step (by repeat (first | (with_reducible first | exact HB.out | apply below_alloc | apply pw_below_drewN | apply below_drew1) | exact HB.out)) hb); clear HB; have HB := n0_; clear n0_; (try clear hb); (try clear hb2); (try clear hk); (try clear hi)))
          go_ret
          exact ⟨by first | rfl | (simp [errW_none, errW_some] <;> rfl) | (simp [*, errW_none, errW_some] <;> rfl), by repeat (first | (with_reducible first | exact HB.out | apply below_alloc | apply pw_below_drewN | apply below_drew1) | exact HB.out)⟩
        · rw [if_neg c7] at H
          have c7b0 : (t173 == t177) = false := beq_eq_false_iff_ne.mpr c7
          have c7b1 : (t173 != t177) = true := bne_iff_ne.mpr c7
          exact absurd (Option.some.inj H) (by rw [htrue.out]; decide)
      · rw [if_neg c6] at H
        have c6b0 : (t172 == t176) = false := beq_eq_false_iff_ne.mpr c6
        have c6b1 : (t172 != t176) = true := bne_iff_ne.mpr c6
        exact absurd (Option.some.inj H) (by rw [htrue.out]; decide)
    · rw [if_neg c5] at H
      have c5b0 : (t171 == t175) = false := beq_eq_false_iff_ne.mpr c5
      have c5b1 : (t171 != t175) = true := bne_iff_ne.mpr c5
      exact absurd (Option.some.inj H) (by rw [htrue.out]; decide)
  · rw [if_neg c4] at H
    have c4b0 : (t170 == t174) = false := beq_eq_false_iff_ne.mpr c4
    have c4b1 : (t170 != t174) = true := bne_iff_ne.mpr c4
    exact absurd (Option.some.inj H) (by rw [htrue.out]; decide)

end Go.Proofs.YtfoikdjffemhbaaDoor.Q
