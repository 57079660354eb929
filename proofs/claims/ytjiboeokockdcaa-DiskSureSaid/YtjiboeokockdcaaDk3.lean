/- A disk in memory, walked: part 3. No condition but those typed. -/
import Derived.Test.YtjiboeokockdcaaWalk0
import Derived.Test.YtjiboeokockdcaaDisk09
import Derived.Test.YtjiboeokockdcaaDk2
namespace Go.Proofs.Ytjiboeokockdcaa.Q
open Go.RowKit Go.Proofs.YtjiboeokockdcaaW.PrintWords Go.Proofs.YtjiboeokockdcaaW.PrintLast Go.Proofs.YtjiboeokockdcaaW.PrintMore
open Go.Proofs.Ytjiboeokockdcaa.Dk
attribute [local go_sem] max2_int min2_int max_two min_two max_three min_three max_four min_four   -- for this text's walks alone
set_option linter.unusedVariables false
set_option linter.unusedSimpArgs false
theorem disk_Read.calls {g : Nat} {ok : Nat → Prop} {d : D} {w : World} (h : At g ok d w) (hr : 0 < d.room) (ho : d.off = false) (i : Bool) (hl : (d.fl i).now.length ≤ 140737488355328) :
    Calls Try.prog 13 #[.pointer (some ⟨g, 0, none⟩), .int .i64 (iv i)] w fun e w' => ∃ v', e = .returned (.tuple #[v', .int .i64 0]) ∧ Rb w.heap.size w' v' (d.fl i).now ∧ Below w.heap.size w w' := by
  have H := Aside0.mk h
  have HF := Aside0.mk (disk_file.calls h hr ho i)
  obtain ⟨v0, v1, v2, v3, HA, V0, V1, V2, V3⟩ := h.ex
  obtain ⟨A0, c0, rfl⟩ := Kd.V_slice V0
  obtain ⟨A2, c2, rfl⟩ := Kd.V_slice V2
  cases i
  · simp only [fo, iv] at HF ⊢
    have x : w.cell? ⟨g, 0, none⟩ = some (.slice A0 d.a.now.length c0) := HA.cell 0
    have VV := Aside0.mk V0
    have HL := Aside0.mk hl
    clear HA V0 V1 V2 V3 h hl ho
    go_enter Try.func13, Try.ntmps13
    go_wp2_with fail
    refine HF.out.mono ?_
    rintro e w1 ⟨rfl, rfl⟩
    go_wp2_with fail
    refine (bytes_Clone.calls VV.out HL.out).mono ?_
    rintro e w2 ⟨v', rfl, ho, hb⟩
    obtain ⟨Ac, cc, rfl⟩ := Kd.R_slice ho
    have HO := Aside0.mk ho
    have HB := Aside0.mk hb
    clear ho hb
    go_wp2_with fail
    go_ret2
    exact ⟨_, rfl, HO.out, HB.out⟩
  · simp only [fo, iv] at HF ⊢
    have x : w.cell? ⟨g, 3, none⟩ = some (.slice A2 d.b.now.length c2) := HA.cell 3
    have VV := Aside0.mk V2
    have HL := Aside0.mk hl
    clear HA V0 V1 V2 V3 h hl ho
    go_enter Try.func13, Try.ntmps13
    go_wp2_with fail
    refine HF.out.mono ?_
    rintro e w1 ⟨rfl, rfl⟩
    go_wp2_with fail
    refine (bytes_Clone.calls VV.out HL.out).mono ?_
    rintro e w2 ⟨v', rfl, ho, hb⟩
    obtain ⟨Ac, cc, rfl⟩ := Kd.R_slice ho
    have HO := Aside0.mk ho
    have HB := Aside0.mk hb
    clear ho hb
    go_wp2_with fail
    go_ret2
    exact ⟨_, rfl, HO.out, HB.out⟩
theorem disk_Read.err {v : Value} {i er : Int} {w : World} (hf : Calls Try.prog 28 #[v, .int .i64 i] w fun e w' => e = .returned (.tuple #[.pointer none, .int .i64 er]) ∧ w' = w) (he : er ≠ 0) :
    Calls Try.prog 13 #[v, .int .i64 i] w fun e w' => e = .returned (.tuple #[.slice none 0 0, .int .i64 er]) ∧ w' = w := by
  have HF := Aside0.mk hf
  have heb : (er != 0) = true := by simpa using he
  clear hf he
  go_enter Try.func13, Try.ntmps13
  go_wp2_with fail
  refine HF.out.mono ?_
  rintro e w1 ⟨rfl, rfl⟩
  go_wp2_with fail
  go_ret2
  exact ⟨rfl, rfl⟩
def newD (room : Int) : D := ⟨⟨[], [], -1⟩, ⟨[], [], -1⟩, 0, room, false, -1, false⟩
theorem disk_New.calls {room : Int} {w : World} (h1 : 1 ≤ room) (h2 : room ≤ 1048576) (ok : Nat → Prop) (hn : ¬ ok w.heap.size) (hf : ∀ k, w.heap.size < k → ok k) :
    Calls Try.prog 6 #[.int .i64 room] w fun e w' => e = .returned (.tuple #[.pointer (some ⟨w.heap.size, 0, none⟩), .int .i64 0]) ∧ At w.heap.size ok (newD room) w' ∧ Below w.heap.size w w' := by
  have t1 : decide (room < 1) = false := decide_eq_false (by omega)
  have t2 : decide (room > 1048576) = false := decide_eq_false (by omega)
  have HN := Aside0.mk hn
  have HF := Aside0.mk hf
  clear h1 h2 hn hf
  go_enter Try.func6, Try.ntmps6
  go_wp2_with fail
  go_ret2
  refine ⟨rfl, ⟨HN.out, fun k hk => HF.out k (by rw [size_alloc] at hk; omega), .slice none 0 0, .slice none 0 0, .slice none 0 0, .slice none 0 0, Blk.At.new w _ 54, Kd.V_nil _ _ _ _ _, Kd.V_nil _ _ _ _ _, Kd.V_nil _ _ _ _ _, Kd.V_nil _ _ _ _ _⟩, below_alloc (Below.refl _ _) _⟩
theorem disk_Start.err {v : Value} {w : World} (h : Dead v w) (k0 k1 : Int) (c0 c1 : Bool) :
    Calls Try.prog 15 #[v, .agg #[.int .i64 k0, .int .i64 k1, .bool c0, .bool c1]] w fun e w' => e = .returned (.int .i64 2) ∧ Below w.heap.size w w' := by
  have H := Aside0.mk (h.below (below_alloc (Below.refl _ w) (.cells #[.int .i64 k0, .int .i64 k1, .bool c0, .bool c1] 44)))
  clear h
  go_enter Try.func15, Try.ntmps15
  go_wp2_with fail
  refine (disk_ok.dead H.out).mono ?_
  rintro e w1 ⟨rfl, rfl⟩
  go_wp2_with fail
  go_ret
  exact ⟨rfl, below_alloc (Below.refl _ _) _⟩
theorem disk_Start.on {g : Nat} {ok : Nat → Prop} {d : D} {w : World} (h : At g ok d w) (hr : 0 < d.room) (ho : d.off = false) (k0 k1 : Int) (c0 c1 : Bool) :
    Calls Try.prog 15 #[.pointer (some ⟨g, 0, none⟩), .agg #[.int .i64 k0, .int .i64 k1, .bool c0, .bool c1]] w fun e w' => e = .returned (.int .i64 13) ∧ Below w.heap.size w w' := by
  have H := Aside0.mk (h.below (below_alloc (Below.refl _ w) (.cells #[.int .i64 k0, .int .i64 k1, .bool c0, .bool c1] 44)))
  obtain ⟨v0, v1, v2, v3, HA, _⟩ := H.out.ex
  have x8 : (w.alloc (.cells #[.int .i64 k0, .int .i64 k1, .bool c0, .bool c1] 44)).cell? ⟨g, 8, none⟩ = some (.bool d.off) := HA.cell 8
  rw [ho] at x8
  clear h HA
  go_enter Try.func15, Try.ntmps15
  go_wp2_with fail
  refine (disk_ok.true H.out hr).mono ?_
  rintro e w1 ⟨rfl, rfl⟩
  go_wp2_with fail
  go_ret
  exact ⟨rfl, below_alloc (Below.refl _ _) _⟩
def st0 (d : D) : D := { d with off := false, fuse := -1 }
def st1 (k0 : Int) (c0 : Bool) (d : D) : D := (st0 d).put false (lost k0 c0 d.a)
def strt (k0 k1 : Int) (c0 c1 : Bool) (d : D) : D := (st1 k0 c0 d).put true (lost k1 c1 d.b)
set_option maxHeartbeats 4000000 in
set_option maxRecDepth 100000 in
theorem disk_Start.calls {g : Nat} {ok : Nat → Prop} {d : D} {w : World} (h : At g ok d w) (hr : 0 < d.room) (ho : d.off = true) (ha : FlOk d.a) (hb : FlOk d.b) (k0 k1 : Int) (c0 c1 : Bool) :
    Calls Try.prog 15 #[.pointer (some ⟨g, 0, none⟩), .agg #[.int .i64 k0, .int .i64 k1, .bool c0, .bool c1]] w fun e w' => e = .returned (.int .i64 0) ∧ At g ok (strt k0 k1 c0 c1 d) w' ∧ Tn g w w' := by
  have H := Aside0.mk (h.below (below_alloc (Below.refl _ w) (.cells #[.int .i64 k0, .int .i64 k1, .bool c0, .bool c1] 44)))
  have HQ := Aside0.mk (Blk.At.new w #[.int .i64 k0, .int .i64 k1, .bool c0, .bool c1] 44)
  have HT := Aside0.mk ((Tn.refl g w).alloc (.cells #[.int .i64 k0, .int .i64 k1, .bool c0, .bool c1] 44))
  have hq : w.heap.size ≠ g := fun e => absurd h.lt (by omega)
  have FA : Aside0 (FlOk ((st0 d).fl false)) := ⟨ha⟩
  have FB : Aside0 (FlOk ((st1 k0 c0 d).fl true)) := ⟨hb⟩
  clear h ha hb
  go_enter Try.func15, Try.ntmps15
  go_wp2_with fail
  refine (disk_ok.true H.out hr).mono ?_
  rintro e w1 ⟨rfl, hw1⟩
  generalize hq' : w.heap.size = q at HQ hq hw1 ⊢
  subst hw1
  generalize w.alloc (.cells #[.int .i64 k0, .int .i64 k1, .bool c0, .bool c1] 44) = w1 at H HQ HT ⊢
  obtain ⟨v0, v1, v2, v3, HA, V0, V1, V2, V3⟩ := H.out.ex
  have x8 : w1.cell? ⟨g, 8, none⟩ = some (.bool d.off) := HA.cell 8
  rw [ho] at x8
  have x9 : w1.cell? ⟨g, 9, none⟩ = some (.int .i64 d.fuse) := HA.cell 9
  have z8 : w1.frozen? ⟨g, 8, none⟩ = false := HA.frozen 8
  have z9 : w1.frozen? ⟨g, 9, none⟩ = false := HA.frozen 9
  have T2 := ((Tn.refl g w1).set_own 8 (.bool false)).set_own 9 (.int .i64 (-1))
  have hn := H.out.nok
  have HS := Aside0.mk (show At g ok (st0 d) _ from H.out.turn T2 ((HA.set 8 (.bool false)).set 9 (.int .i64 (-1))) (V_tn V0 hn T2) (V_tn V1 hn T2) (V_tn V2 hn T2) (V_tn V3 hn T2))
  have HQ2 := Aside0.mk (blk_tn HQ.out T2 hq)
  have HT2 := Aside0.mk (HT.out.trans T2)
  clear HA V0 V1 V2 V3 T2 hn
  go_wp2_with fail
  generalize (w1.setCell ⟨g, 8, none⟩ (.bool false)).setCell ⟨g, 9, none⟩ (.int .i64 (-1)) = w2 at HS HQ2 HT2 ⊢
  clear H HQ HT x8 x9 z8 z9
  have D1 : st1 k0 c0 d = (st0 d).put false (lost k0 c0 ((st0 d).fl false)) := rfl
  have D2 : strt k0 k1 c0 c1 d = (st1 k0 c0 d).put true (lost k1 c1 ((st1 k0 c0 d).fl true)) := rfl
  have L0 : ∀ W, At g ok (st0 d) W → Calls Try.prog 30 #[.pointer (some ⟨g, 0, none⟩), .int .i64 k0, .bool c0] W fun e w' => e = .returned (.tuple #[]) ∧ At g ok (st1 k0 c0 d) w' ∧ Tn g W w' := fun W h => file_lose.calls h false k0 c0 FA.out
  have L1 : ∀ W, At g ok (st1 k0 c0 d) W → Calls Try.prog 30 #[.pointer (some ⟨g, 3, none⟩), .int .i64 k1, .bool c1] W fun e w' => e = .returned (.tuple #[]) ∧ At g ok (strt k0 k1 c0 c1 d) w' ∧ Tn g W w' := fun W h => file_lose.calls h true k1 c1 FB.out
  have L0' := Aside0.mk L0
  have L1' := Aside0.mk L1
  clear D1 D2 L0 L1
  go_loopw [22] (fun j wr => ∃ n : Nat, n ≤ 2 ∧ j = .int .i64 n ∧ Aside0 (At g ok (match n with | 0 => st0 d | 1 => st1 k0 c0 d | _ => strt k0 k1 c0 c1 d) wr) ∧ Aside0 (Tn g w wr) ∧ Aside0 (Blk.At q #[.int .i64 k0, .int .i64 k1, .bool c0, .bool c1] 44 wr)) (fun j _ => 2 - (intOf j).toNat)
  case atStart => exact ⟨0, by omega, rfl, HS, HT2, HQ2⟩
  case round =>
    clear HS HT2 HQ2
    obtain ⟨n, hn, rfl, HA, HT, HQ⟩ := hrel
    rcases (by omega : n = 2 ∨ n = 0 ∨ n = 1) with rfl | rfl | rfl
    · go_wp2_with fail
      go_ret
      exact ⟨rfl, HA.out, HT.out⟩
    · have b0 : wr.cell? ⟨q, 0, none⟩ = some (.int .i64 k0) := HQ.out.cell 0
      have b2 : wr.cell? ⟨q, 2, none⟩ = some (.bool c0) := HQ.out.cell 2
      go_wp2_with fail
      refine start_ (n := 14) (S := fun w' => w'.cell? ⟨q, 0, none⟩ = some (.int .i64 k0) ∧ w'.cell? ⟨q, 2, none⟩ = some (.bool c0)) (ds := []) #[false, false, false, false, false, false, false, false, false, false, false, false, false, false] (by kernel_rfl) rfl rfl ⟨b0, b2⟩ (fun hHeld => ?_)
      refine pure_ (i := 0) (N := some 25) (v := ?_) (a' := ?_) #[true, false, false, false, false, false, false, false, false, false, false, false, false, false] rfl rfl (by kernel_rfl) (fun _ _ _ h => h) (Or.inl ⟨by rfl, ?_⟩) ?_ ?_
      rotate_left
      · intro w'
        go_simp
        with_reducible rfl
      rotate_left
      · simp only [Act.put, List.setIfInBounds_toArray, List.set_cons_zero, List.set_cons_succ, i64_w, i32_w]
        rfl
      refine pure_ (i := 1) (N := some 26) (v := ?_) (a' := ?_) #[true, true, false, false, false, false, false, false, false, false, false, false, false, false] rfl rfl (by kernel_rfl) (fun _ _ _ h => h) (Or.inl ⟨by rfl, ?_⟩) ?_ ?_
      rotate_left
      · intro w'
        go_simp
        with_reducible rfl
      rotate_left
      · simp only [Act.put, List.setIfInBounds_toArray, List.set_cons_zero, List.set_cons_succ, i64_w, i32_w]
        rfl
      refine pure_ (i := 2) (N := some 27) (v := ?_) (a' := ?_) #[true, true, true, false, false, false, false, false, false, false, false, false, false, false] rfl rfl (by kernel_rfl) (fun _ _ _ h => h) (Or.inl ⟨by rfl, ?_⟩) ?_ ?_
      rotate_left
      · intro w'
        go_simp
        with_reducible rfl
      rotate_left
      · simp only [Act.put, List.setIfInBounds_toArray, List.set_cons_zero, List.set_cons_succ, i64_w, i32_w]
        rfl
      refine pure_ (i := 3) (N := some 28) (v := ?_) (a' := ?_) #[true, true, true, true, false, false, false, false, false, false, false, false, false, false] rfl rfl (by kernel_rfl) (fun _ _ _ h => h) (Or.inl ⟨by rfl, ?_⟩) ?_ ?_
      rotate_left
      · intro w'
        go_simp
        with_reducible rfl
      rotate_left
      · simp only [Act.put, List.setIfInBounds_toArray, List.set_cons_zero, List.set_cons_succ, i64_w, i32_w]
        rfl
      refine pure_ (i := 4) (N := some 29) (v := ?_) (a' := ?_) #[true, true, true, true, true, false, false, false, false, false, false, false, false, false] rfl rfl (by kernel_rfl) (fun _ _ _ h => h) (Or.inl ⟨by rfl, ?_⟩) ?_ ?_
      rotate_left
      · intro w'
        go_simp
        with_reducible rfl
      rotate_left
      · simp only [Act.put, List.setIfInBounds_toArray, List.set_cons_zero, List.set_cons_succ, i64_w, i32_w]
        rfl
      refine pure_ (i := 5) (N := some 30) (v := ?_) (a' := ?_) #[true, true, true, true, true, true, false, false, false, false, false, false, false, false] rfl rfl (by kernel_rfl) (fun _ _ _ h => h) (Or.inl ⟨by rfl, ?_⟩) ?_ ?_
      rotate_left
      · intro w'
        go_simp
        with_reducible rfl
      rotate_left
      · simp only [Act.put, List.setIfInBounds_toArray, List.set_cons_zero, List.set_cons_succ, i64_w, i32_w]
        rfl
      refine pure_ (i := 6) (N := some 31) (v := ?_) (a' := ?_) #[true, true, true, true, true, true, true, false, false, false, false, false, false, false] rfl rfl (by kernel_rfl) (fun _ _ _ h => h) (Or.inl ⟨by rfl, ?_⟩) ?_ ?_
      rotate_left
      · intro w'
        go_simp
        with_reducible rfl
      rotate_left
      · simp only [Act.put, List.setIfInBounds_toArray, List.set_cons_zero, List.set_cons_succ, i64_w, i32_w]
        rfl
      refine pure_ (i := 7) (N := some 32) (v := ?_) (a' := ?_) #[true, true, true, true, true, true, true, true, false, false, false, false, false, false] rfl rfl (by kernel_rfl) (fun _ _ _ h => h) (Or.inl ⟨by rfl, ?_⟩) ?_ ?_
      rotate_left
      · intro w'
        go_simp
        with_reducible rfl
      rotate_left
      · simp only [Act.put, List.setIfInBounds_toArray, List.set_cons_zero, List.set_cons_succ, i64_w, i32_w]
        rfl
      refine pure_ (i := 9) (N := some 34) (v := ?_) (a' := ?_) #[true, true, true, true, true, true, true, true, false, true, false, false, false, false] rfl rfl (by kernel_rfl) (fun _ _ _ h => h) (Or.inl ⟨by rfl, ?_⟩) ?_ ?_
      rotate_left
      · intro w'
        go_simp
        with_reducible rfl
      rotate_left
      · simp only [Act.put, List.setIfInBounds_toArray, List.set_cons_zero, List.set_cons_succ, i64_w, i32_w]
        rfl
      refine pure_ (i := 10) (N := some 35) (v := ?_) (a' := ?_) #[true, true, true, true, true, true, true, true, false, true, true, false, false, false] rfl rfl (by kernel_rfl) (fun _ _ _ h => h) (Or.inl ⟨by rfl, ?_⟩) ?_ ?_
      rotate_left
      · intro w'
        go_simp
        with_reducible rfl
      rotate_left
      · simp only [Act.put, List.setIfInBounds_toArray, List.set_cons_zero, List.set_cons_succ, i64_w, i32_w]
        rfl
      refine pure_ (i := 11) (N := some 36) (v := ?_) (a' := ?_) #[true, true, true, true, true, true, true, true, false, true, true, true, false, false] rfl rfl (by kernel_rfl) (fun _ _ _ h => h) (Or.inl ⟨by rfl, ?_⟩) ?_ ?_
      rotate_left
      · intro w'
        go_simp
        with_reducible rfl
      rotate_left
      · simp only [Act.put, List.setIfInBounds_toArray, List.set_cons_zero, List.set_cons_succ, i64_w, i32_w]
        rfl
      refine take_ (i := 8) (N := some 33) (v := ?_) (a' := ?_) #[true, true, true, true, true, true, true, true, true, true, true, true, false, false] rfl rfl (by kernel_rfl) (fun _ _ _ h => h) (Or.inl ⟨by rfl, ?_⟩) hHeld ?_ ?_
      rotate_left
      · rintro w' ⟨s0, s1⟩
        go_simp
        with_reducible rfl
      rotate_left
      · simp only [Act.put, List.setIfInBounds_toArray, List.set_cons_zero, List.set_cons_succ, i64_w, i32_w]
        rfl
      refine take_ (i := 12) (N := some 37) (v := ?_) (a' := ?_) #[true, true, true, true, true, true, true, true, true, true, true, true, true, false] rfl rfl (by kernel_rfl) (fun _ _ _ h => h) (Or.inl ⟨by rfl, ?_⟩) hHeld ?_ ?_
      rotate_left
      · rintro w' ⟨s0, s1⟩
        go_simp
        with_reducible rfl
      rotate_left
      · simp only [Act.put, List.setIfInBounds_toArray, List.set_cons_zero, List.set_cons_succ, i64_w, i32_w]
        rfl
      refine one_ (i := 13) (N := some 38) #[true, true, true, true, true, true, true, true, true, true, true, true, true, true] rfl rfl (by kernel_rfl) (by decide) (fun K hK => ?_)
      refine goes_ Try.func30 (by kernel_rfl) rfl #[.pointer (some ⟨g, 0, none⟩), .int .i64 k0, .bool c0] (by rfl) rfl rfl (by simp only [List.map_toArray, List.map_cons, List.map_nil]; rfl) ?_
      with_reducible refine (L0'.out _ (HA.out.below (below_drew (Below.refl _ _)))).mono ?_
      rintro e w3 ⟨rfl, hA_, hT_⟩
      refine ⟨_, rfl, ?_⟩
      have HA3 := Aside0.mk hA_
      have HT3 := Aside0.mk (HT.out.drew.trans hT_)
      have HQ3 := Aside0.mk (blk_tn HQ.out.drew hT_ hq)
      clear hA_ hT_
      refine hK.out _ _ ⟨HQ3.out.cell 0, HQ3.out.cell 2⟩ (fun hHeld => ?_)
      clear hK K
      refine norm_ (a' := ?_) ?_ ?_
      rotate_left
      · show Act.put _ (some 38) _ = _
        simp only [Act.put, List.setIfInBounds_toArray, List.set_cons_zero, List.set_cons_succ, i64_w, i32_w]
        rfl
      refine done_ (by kernel_rfl) ?_
      go_wp2_with fail
      go_round
      case rel => exact ⟨1, by omega, rfl, HA3, HT3, HQ3⟩
      case measure => simp [intOf]
    · have b0 : wr.cell? ⟨q, 1, none⟩ = some (.int .i64 k1) := HQ.out.cell 1
      have b2 : wr.cell? ⟨q, 3, none⟩ = some (.bool c1) := HQ.out.cell 3
      go_wp2_with fail
      refine start_ (n := 14) (S := fun w' => w'.cell? ⟨q, 1, none⟩ = some (.int .i64 k1) ∧ w'.cell? ⟨q, 3, none⟩ = some (.bool c1)) (ds := []) #[false, false, false, false, false, false, false, false, false, false, false, false, false, false] (by kernel_rfl) rfl rfl ⟨b0, b2⟩ (fun hHeld => ?_)
      refine pure_ (i := 0) (N := some 25) (v := ?_) (a' := ?_) #[true, false, false, false, false, false, false, false, false, false, false, false, false, false] rfl rfl (by kernel_rfl) (fun _ _ _ h => h) (Or.inl ⟨by rfl, ?_⟩) ?_ ?_
      rotate_left
      · intro w'
        go_simp
        with_reducible rfl
      rotate_left
      · simp only [Act.put, List.setIfInBounds_toArray, List.set_cons_zero, List.set_cons_succ, i64_w, i32_w]
        rfl
      refine pure_ (i := 1) (N := some 26) (v := ?_) (a' := ?_) #[true, true, false, false, false, false, false, false, false, false, false, false, false, false] rfl rfl (by kernel_rfl) (fun _ _ _ h => h) (Or.inl ⟨by rfl, ?_⟩) ?_ ?_
      rotate_left
      · intro w'
        go_simp
        with_reducible rfl
      rotate_left
      · simp only [Act.put, List.setIfInBounds_toArray, List.set_cons_zero, List.set_cons_succ, i64_w, i32_w]
        rfl
      refine pure_ (i := 2) (N := some 27) (v := ?_) (a' := ?_) #[true, true, true, false, false, false, false, false, false, false, false, false, false, false] rfl rfl (by kernel_rfl) (fun _ _ _ h => h) (Or.inl ⟨by rfl, ?_⟩) ?_ ?_
      rotate_left
      · intro w'
        go_simp
        with_reducible rfl
      rotate_left
      · simp only [Act.put, List.setIfInBounds_toArray, List.set_cons_zero, List.set_cons_succ, i64_w, i32_w]
        rfl
      refine pure_ (i := 3) (N := some 28) (v := ?_) (a' := ?_) #[true, true, true, true, false, false, false, false, false, false, false, false, false, false] rfl rfl (by kernel_rfl) (fun _ _ _ h => h) (Or.inl ⟨by rfl, ?_⟩) ?_ ?_
      rotate_left
      · intro w'
        go_simp
        with_reducible rfl
      rotate_left
      · simp only [Act.put, List.setIfInBounds_toArray, List.set_cons_zero, List.set_cons_succ, i64_w, i32_w]
        rfl
      refine pure_ (i := 4) (N := some 29) (v := ?_) (a' := ?_) #[true, true, true, true, true, false, false, false, false, false, false, false, false, false] rfl rfl (by kernel_rfl) (fun _ _ _ h => h) (Or.inl ⟨by rfl, ?_⟩) ?_ ?_
      rotate_left
      · intro w'
        go_simp
        with_reducible rfl
      rotate_left
      · simp only [Act.put, List.setIfInBounds_toArray, List.set_cons_zero, List.set_cons_succ, i64_w, i32_w]
        rfl
      refine pure_ (i := 5) (N := some 30) (v := ?_) (a' := ?_) #[true, true, true, true, true, true, false, false, false, false, false, false, false, false] rfl rfl (by kernel_rfl) (fun _ _ _ h => h) (Or.inl ⟨by rfl, ?_⟩) ?_ ?_
      rotate_left
      · intro w'
        go_simp
        with_reducible rfl
      rotate_left
      · simp only [Act.put, List.setIfInBounds_toArray, List.set_cons_zero, List.set_cons_succ, i64_w, i32_w]
        rfl
      refine pure_ (i := 6) (N := some 31) (v := ?_) (a' := ?_) #[true, true, true, true, true, true, true, false, false, false, false, false, false, false] rfl rfl (by kernel_rfl) (fun _ _ _ h => h) (Or.inl ⟨by rfl, ?_⟩) ?_ ?_
      rotate_left
      · intro w'
        go_simp
        with_reducible rfl
      rotate_left
      · simp only [Act.put, List.setIfInBounds_toArray, List.set_cons_zero, List.set_cons_succ, i64_w, i32_w]
        rfl
      refine pure_ (i := 7) (N := some 32) (v := ?_) (a' := ?_) #[true, true, true, true, true, true, true, true, false, false, false, false, false, false] rfl rfl (by kernel_rfl) (fun _ _ _ h => h) (Or.inl ⟨by rfl, ?_⟩) ?_ ?_
      rotate_left
      · intro w'
        go_simp
        with_reducible rfl
      rotate_left
      · simp only [Act.put, List.setIfInBounds_toArray, List.set_cons_zero, List.set_cons_succ, i64_w, i32_w]
        rfl
      refine pure_ (i := 9) (N := some 34) (v := ?_) (a' := ?_) #[true, true, true, true, true, true, true, true, false, true, false, false, false, false] rfl rfl (by kernel_rfl) (fun _ _ _ h => h) (Or.inl ⟨by rfl, ?_⟩) ?_ ?_
      rotate_left
      · intro w'
        go_simp
        with_reducible rfl
      rotate_left
      · simp only [Act.put, List.setIfInBounds_toArray, List.set_cons_zero, List.set_cons_succ, i64_w, i32_w]
        rfl
      refine pure_ (i := 10) (N := some 35) (v := ?_) (a' := ?_) #[true, true, true, true, true, true, true, true, false, true, true, false, false, false] rfl rfl (by kernel_rfl) (fun _ _ _ h => h) (Or.inl ⟨by rfl, ?_⟩) ?_ ?_
      rotate_left
      · intro w'
        go_simp
        with_reducible rfl
      rotate_left
      · simp only [Act.put, List.setIfInBounds_toArray, List.set_cons_zero, List.set_cons_succ, i64_w, i32_w]
        rfl
      refine pure_ (i := 11) (N := some 36) (v := ?_) (a' := ?_) #[true, true, true, true, true, true, true, true, false, true, true, true, false, false] rfl rfl (by kernel_rfl) (fun _ _ _ h => h) (Or.inl ⟨by rfl, ?_⟩) ?_ ?_
      rotate_left
      · intro w'
        go_simp
        with_reducible rfl
      rotate_left
      · simp only [Act.put, List.setIfInBounds_toArray, List.set_cons_zero, List.set_cons_succ, i64_w, i32_w]
        rfl
      refine take_ (i := 8) (N := some 33) (v := ?_) (a' := ?_) #[true, true, true, true, true, true, true, true, true, true, true, true, false, false] rfl rfl (by kernel_rfl) (fun _ _ _ h => h) (Or.inl ⟨by rfl, ?_⟩) hHeld ?_ ?_
      rotate_left
      · rintro w' ⟨s0, s1⟩
        go_simp
        with_reducible rfl
      rotate_left
      · simp only [Act.put, List.setIfInBounds_toArray, List.set_cons_zero, List.set_cons_succ, i64_w, i32_w]
        rfl
      refine take_ (i := 12) (N := some 37) (v := ?_) (a' := ?_) #[true, true, true, true, true, true, true, true, true, true, true, true, true, false] rfl rfl (by kernel_rfl) (fun _ _ _ h => h) (Or.inl ⟨by rfl, ?_⟩) hHeld ?_ ?_
      rotate_left
      · rintro w' ⟨s0, s1⟩
        go_simp
        with_reducible rfl
      rotate_left
      · simp only [Act.put, List.setIfInBounds_toArray, List.set_cons_zero, List.set_cons_succ, i64_w, i32_w]
        rfl
      refine one_ (i := 13) (N := some 38) #[true, true, true, true, true, true, true, true, true, true, true, true, true, true] rfl rfl (by kernel_rfl) (by decide) (fun K hK => ?_)
      refine goes_ Try.func30 (by kernel_rfl) rfl #[.pointer (some ⟨g, 3, none⟩), .int .i64 k1, .bool c1] (by rfl) rfl rfl (by simp only [List.map_toArray, List.map_cons, List.map_nil]; rfl) ?_
      with_reducible refine (L1'.out _ (HA.out.below (below_drew (Below.refl _ _)))).mono ?_
      rintro e w3 ⟨rfl, hA_, hT_⟩
      refine ⟨_, rfl, ?_⟩
      have HA3 := Aside0.mk hA_
      have HT3 := Aside0.mk (HT.out.drew.trans hT_)
      have HQ3 := Aside0.mk (blk_tn HQ.out.drew hT_ hq)
      clear hA_ hT_
      refine hK.out _ _ ⟨HQ3.out.cell 1, HQ3.out.cell 3⟩ (fun hHeld => ?_)
      clear hK K
      refine norm_ (a' := ?_) ?_ ?_
      rotate_left
      · show Act.put _ (some 38) _ = _
        simp only [Act.put, List.setIfInBounds_toArray, List.set_cons_zero, List.set_cons_succ, i64_w, i32_w]
        rfl
      refine done_ (by kernel_rfl) ?_
      go_wp2_with fail
      go_round
      case rel => exact ⟨2, by omega, rfl, HA3, HT3, HQ3⟩
      case measure => simp [intOf]
theorem two_of {α : Type} : ∀ (l : List α), l.length = 2 → ∃ x y, l = [x, y]
  | [x, y], _ => ⟨x, y, rfl⟩
  | [], h => by simp at h
  | [_], h => by simp at h
  | _ :: _ :: _ :: _, h => by simp at h
/-- One call of a script. -/
structure Ac where
  kind : Int
  file : Int
  n : Int
  behind : Bool
  b : List Int
  ks : List Int
  cs : List Bool
def dT : Kd (Int × Int × Int × Bool × List Int × List Int × List Bool) := Kd.pair (Kd.int .u8) (Kd.pair (Kd.int .i64) (Kd.pair (Kd.int .i64) (Kd.pair Kd.bool (Kd.pair (Kd.slice 5 (Kd.int .u8)) (Kd.pair (Kd.arr 2 (Kd.int .i64) (by decide)) (Kd.arr 2 Kd.bool (by decide)))))))
def dA : Kd Ac := Kd.iso dT (fun a => (a.kind, a.file, a.n, a.behind, a.b, a.ks, a.cs))
theorem heap_dA : Kd.Heap dA := Kd.heap_iso _ (Kd.heap_pair (Kd.heap_int _) (Kd.heap_pair (Kd.heap_int _) (Kd.heap_pair (Kd.heap_int _) (Kd.heap_pair Kd.heap_bool (Kd.heap_pair (Kd.heap_slice 5 (Kd.heap_int _)) (Kd.heap_pair (Kd.heap_arr (Kd.heap_int _)) (Kd.heap_arr Kd.heap_bool)))))))
def av (a : Ac) (B : Option Addr) (cb : Nat) (k0 k1 : Int) (c0 c1 : Bool) : Array Value := #[.int .u8 a.kind, .int .i64 a.file, .int .i64 a.n, .bool a.behind, .slice B a.b.length cb, .int .i64 k0, .int .i64 k1, .bool c0, .bool c1]
theorem dA_open {w : World} {a : Ac} {cs : List Value} (h : dA.K w a cs) : ∃ B cb k0 k1 c0 c1, cs = (av a B cb k0 k1 c0 c1).toList ∧ a.b.length ≤ cb ∧ (Kd.int .u8).C w B a.b.length a.b ∧ a.ks = [k0, k1] ∧ a.cs = [c0, c1] := by
  obtain ⟨x0, y0, rfl, h0, x1, y1, rfl, h1, x2, y2, rfl, h2, x3, y3, rfl, h3, x4, y4, rfl, h4, x5, y5, rfl, h5, h6⟩ := h
  obtain ⟨B, cb, rfl, hl, hC⟩ := h4
  have e0 : x0 = [.int .u8 a.kind] := h0
  have e1 : x1 = [.int .i64 a.file] := h1
  have e2 : x2 = [.int .i64 a.n] := h2
  have e3 : x3 = [.bool a.behind] := h3
  obtain ⟨l5, e5⟩ := Kd.arr_cells h5
  obtain ⟨l6, e6⟩ := Kd.arr_cells h6
  obtain ⟨k0, k1, hk⟩ := two_of a.ks l5
  obtain ⟨c0, c1, hc⟩ := two_of a.cs l6
  refine ⟨B, cb, k0, k1, c0, c1, ?_, hl, hC, hk, hc⟩
  simp only [hk, hc] at e5 e6
  subst e0 e1 e2 e3 e5 e6
  rfl
/-- What every disk of a law is. -/
structure Good (d : D) : Prop where
  room : Room d
  fuse : -1 ≤ d.fuse ∧ d.fuse < 9223372036854775808
  a : FlOk d.a
  b : FlOk d.b
def fe (d : D) (f : Int) : Int := if f ≠ 0 ∧ f ≠ 1 then 1 else if d.off = true then 12 else 0
def bi (f : Int) : Bool := decide (f = 1)
theorem gate_cases (d : D) (f : Int) : ((f ≠ 0 ∧ f ≠ 1) ∧ fe d f = 1) ∨ ∃ i, f = iv i ∧ bi f = i ∧ ((d.off = true ∧ fe d f = 12) ∨ (d.off = false ∧ fe d f = 0)) := by
  by_cases h : f ≠ 0 ∧ f ≠ 1
  · exact .inl ⟨h, if_pos h⟩
  · refine .inr ?_
    have hh : fe d f = if d.off = true then 12 else 0 := if_neg h
    rw [hh]
    have ho : (d.off = true ∧ (if d.off = true then (12 : Int) else 0) = 12) ∨ (d.off = false ∧ (if d.off = true then (12 : Int) else 0) = 0) := by cases d.off <;> simp
    by_cases h0 : f = 0
    · exact ⟨false, by rw [h0]; rfl, by rw [h0]; rfl, ho⟩
    · have h1 : f = 1 := by
        by_cases h1 : f = 1
        · exact h1
        · exact absurd ⟨h0, h1⟩ h
      exact ⟨true, by rw [h1]; rfl, by rw [h1]; rfl, ho⟩
theorem disk_file.er {g : Nat} {ok : Nat → Prop} {d : D} {w : World} (h : At g ok d w) (hr : 0 < d.room) (f : Int) (hf : fe d f ≠ 0) :
    Calls Try.prog 28 #[.pointer (some ⟨g, 0, none⟩), .int .i64 f] w fun e w' => e = .returned (.tuple #[.pointer none, .int .i64 (fe d f)]) ∧ w' = w := by
  rcases gate_cases d f with ⟨hn, he⟩ | ⟨i, rfl, _, ⟨ho, he⟩ | ⟨_, he⟩⟩
  · rw [he]; exact disk_file.arg h hr f hn
  · rw [he]; exact disk_file.down h hr ho i
  · exact absurd he hf
def gateE (d : D) (f e : Int) : Int := if fe d f ≠ 0 then fe d f else e
def gateD (d : D) (f : Int) (d' : D) : D := if fe d f ≠ 0 then d else d'
theorem gate_open {d : D} {f : Int} (hf : ¬ fe d f ≠ 0) : ∃ i, f = iv i ∧ bi f = i ∧ d.off = false := by
  rcases gate_cases d f with ⟨hn, he⟩ | ⟨i, h1, h2, ⟨ho, he⟩ | ⟨ho, he⟩⟩
  · exact absurd (by rw [he]; decide) hf
  · exact absurd (by rw [he]; decide) hf
  · exact ⟨i, h1, h2, ho⟩
theorem disk_Sync.all {g : Nat} {ok : Nat → Prop} {d : D} {w : World} (h : At g ok d w) (hg : Good d) (f : Int) :
    Calls Try.prog 10 #[.pointer (some ⟨g, 0, none⟩), .int .i64 f] w fun e w' => e = .returned (.int .i64 (gateE d f (actE 0 d))) ∧ At g ok (gateD d f (actD 0 (syn (bi f)) d)) w' ∧ Tn g w w' := by
  by_cases hf : fe d f ≠ 0
  · rw [show gateE d f (actE 0 d) = fe d f from if_pos hf, show gateD d f (actD 0 (syn (bi f)) d) = d from if_pos hf]
    exact (disk_Sync.err (disk_file.er h hg.room.pos f hf) hf).mono (fun e w' q => ⟨q.1, q.2 ▸ h, q.2 ▸ Tn.refl g w⟩)
  · rw [show gateE d f (actE 0 d) = actE 0 d from if_neg hf, show gateD d f (actD 0 (syn (bi f)) d) = actD 0 (syn (bi f)) d from if_neg hf]
    obtain ⟨i, h1, h2, ho⟩ := gate_open hf
    rw [h2, h1]
    exact disk_Sync.calls h hg.room.pos ho hg.fuse.2 i
theorem disk_Truncate.all {g : Nat} {ok : Nat → Prop} {d : D} {w : World} (h : At g ok d w) (hg : Good d) (f : Int) (n : Int) :
    Calls Try.prog 20 #[.pointer (some ⟨g, 0, none⟩), .int .i64 f, .int .i64 n] w fun e w' => e = .returned (.int .i64 (gateE d f (actE (troom n (d.fl (bi f))) d))) ∧ At g ok (gateD d f (actD (troom n (d.fl (bi f))) (tru (bi f) n) d)) w' ∧ Tn g w w' := by
  by_cases hf : fe d f ≠ 0
  · rw [show gateE d f (actE (troom n (d.fl (bi f))) d) = fe d f from if_pos hf, show gateD d f (actD (troom n (d.fl (bi f))) (tru (bi f) n) d) = d from if_pos hf]
    exact (disk_Truncate.err n (fun W hW => disk_file.er (h.below hW) hg.room.pos f hf) hf).mono (fun e w' q => ⟨q.1, h.below q.2, Tn.of_below q.2⟩)
  · rw [show gateE d f (actE (troom n (d.fl (bi f))) d) = actE (troom n (d.fl (bi f))) d from if_neg hf, show gateD d f (actD (troom n (d.fl (bi f))) (tru (bi f) n) d) = actD (troom n (d.fl (bi f))) (tru (bi f) n) d from if_neg hf]
    obtain ⟨i, h1, h2, ho⟩ := gate_open hf
    rw [h2, h1]
    exact disk_Truncate.calls h hg.room.pos ho hg.fuse.2 i n
theorem disk_Switch.all {g : Nat} {ok : Nat → Prop} {d : D} {w : World} (h : At g ok d w) (hg : Good d) (f : Int) :
    Calls Try.prog 21 #[.pointer (some ⟨g, 0, none⟩), .int .i64 f] w fun e w' => e = .returned (.int .i64 (gateE d f (actE 0 d))) ∧ At g ok (gateD d f (actD 0 (swi f) d)) w' ∧ Tn g w w' := by
  by_cases hf : fe d f ≠ 0
  · rw [show gateE d f (actE 0 d) = fe d f from if_pos hf, show gateD d f (actD 0 (swi f) d) = d from if_pos hf]
    exact (disk_Switch.err (fun W hW => disk_file.er (h.below hW) hg.room.pos f hf) hf).mono (fun e w' q => ⟨q.1, h.below q.2, Tn.of_below q.2⟩)
  · rw [show gateE d f (actE 0 d) = actE 0 d from if_neg hf, show gateD d f (actD 0 (swi f) d) = actD 0 (swi f) d from if_neg hf]
    obtain ⟨i, h1, h2, ho⟩ := gate_open hf
    rw [h1]
    exact disk_Switch.calls h hg.room.pos ho hg.fuse.2 i
theorem disk_Append.all {g : Nat} {ok : Nat → Prop} {d : D} {w : World} (h : At g ok d w) (hg : Good d) (f : Int) {okb : Nat → Prop} {bv : Value} {b : List Int} (hb : Vb okb w bv b) (hbg : ¬ okb g) :
    Calls Try.prog 9 #[.pointer (some ⟨g, 0, none⟩), .int .i64 f, bv] w fun e w' => e = .returned (.int .i64 (gateE d f (actE (room1 d b.length) d))) ∧ At g ok (gateD d f (actD (room1 d b.length) (app (bi f) b) d)) w' ∧ Tn g w w' := by
  by_cases hf : fe d f ≠ 0
  · rw [show gateE d f (actE (room1 d b.length) d) = fe d f from if_pos hf, show gateD d f (actD (room1 d b.length) (app (bi f) b) d) = d from if_pos hf]
    obtain ⟨B, cb, rfl⟩ := Kd.V_slice hb
    exact (disk_Append.err (fun W hW => disk_file.er (h.below hW) hg.room.pos f hf) hf).mono (fun e w' q => ⟨q.1, h.below q.2, Tn.of_below q.2⟩)
  · rw [show gateE d f (actE (room1 d b.length) d) = actE (room1 d b.length) d from if_neg hf, show gateD d f (actD (room1 d b.length) (app (bi f) b) d) = actD (room1 d b.length) (app (bi f) b) d from if_neg hf]
    obtain ⟨i, h1, h2, ho⟩ := gate_open hf
    rw [h2, h1]
    exact disk_Append.calls h hg.room ho hg.fuse.2 i hb hbg
def startD (k0 k1 : Int) (c0 c1 : Bool) (d : D) : D := if d.off = true then strt k0 k1 c0 c1 d else d
def startE (d : D) : Int := if d.off = true then 0 else 13
theorem disk_Start.all {g : Nat} {ok : Nat → Prop} {d : D} {w : World} (h : At g ok d w) (hg : Good d) (k0 k1 : Int) (c0 c1 : Bool) :
    Calls Try.prog 15 #[.pointer (some ⟨g, 0, none⟩), .agg #[.int .i64 k0, .int .i64 k1, .bool c0, .bool c1]] w fun e w' => e = .returned (.int .i64 (startE d)) ∧ At g ok (startD k0 k1 c0 c1 d) w' ∧ Tn g w w' := by
  unfold startE startD
  by_cases ho : d.off = true
  · rw [if_pos ho, if_pos ho]
    exact disk_Start.calls h hg.room.pos ho hg.a hg.b k0 k1 c0 c1
  · rw [if_neg ho, if_neg ho]
    exact (disk_Start.on h hg.room.pos (by simpa using ho) k0 k1 c0 c1).mono (fun e w' q => ⟨q.1, h.below q.2, Tn.of_below q.2⟩)
def armD (n : Int) (b : Bool) (d : D) : D := { d with fuse := (if n < -1 then -1 else n), behind := b }
theorem disk_Arm.all {g : Nat} {ok : Nat → Prop} {d : D} {w : World} (h : At g ok d w) (hg : Good d) (n : Int) (b : Bool) :
    Calls Try.prog 19 #[.pointer (some ⟨g, 0, none⟩), .int .i64 n, .bool b] w fun e w' => e = .returned (.tuple #[]) ∧ At g ok (armD n b d) w' ∧ Tn g w w' := disk_Arm.calls h hg.room.pos n b
def k0 (a : Ac) : Int := a.ks.getD 0 0
def k1 (a : Ac) : Int := a.ks.getD 1 0
def c0 (a : Ac) : Bool := a.cs.getD 0 false
def c1 (a : Ac) : Bool := a.cs.getD 1 false
/-- What a call leaves, and answers. -/
def doesD (a : Ac) (d : D) : D :=
  if Int.tmod a.kind 8 = 1 then gateD d a.file (actD 0 (syn (bi a.file)) d) else if Int.tmod a.kind 8 = 2 then gateD d a.file (actD (troom a.n (d.fl (bi a.file))) (tru (bi a.file) a.n) d) else if Int.tmod a.kind 8 = 3 then gateD d a.file (actD 0 (swi a.file) d)
  else if Int.tmod a.kind 8 = 4 then armD a.n a.behind d else if Int.tmod a.kind 8 = 5 then { d with off := true, fuse := -1 } else if Int.tmod a.kind 8 = 6 then startD (k0 a) (k1 a) (c0 a) (c1 a) d
  else gateD d a.file (actD (room1 d a.b.length) (app (bi a.file) a.b) d)
def doesE (a : Ac) (d : D) : Int :=
  if Int.tmod a.kind 8 = 1 then gateE d a.file (actE 0 d) else if Int.tmod a.kind 8 = 2 then gateE d a.file (actE (troom a.n (d.fl (bi a.file))) d) else if Int.tmod a.kind 8 = 3 then gateE d a.file (actE 0 d)
  else if Int.tmod a.kind 8 = 4 then 0 else if Int.tmod a.kind 8 = 5 then 0 else if Int.tmod a.kind 8 = 6 then startE d
  else gateE d a.file (actE (room1 d a.b.length) d)
set_option maxHeartbeats 4000000 in
set_option maxRecDepth 100000 in
theorem law_does.calls {g : Nat} {ok okb : Nat → Prop} {d : D} {w : World} (h : At g ok d w) (hg : Good d) (a : Ac) (B : Option Addr) (cb : Nat) (x0 x1 : Int) (y0 y1 : Bool) (hk : a.ks = [x0, x1]) (hc : a.cs = [y0, y1]) (hb : Vb okb w (.slice B a.b.length cb) a.b) (hbg : ¬ okb g) :
    Calls Try.prog 12 #[.pointer (some ⟨g, 0, none⟩), .agg (av a B cb x0 x1 y0 y1)] w fun e w' => e = .returned (.int .i64 (doesE a d)) ∧ At g ok (doesD a d) w' ∧ Tn g w w' := by
  have H := Aside0.mk (h.below (below_alloc (Below.refl _ w) (.cells (av a B cb x0 x1 y0 y1) 36)))
  have HV := Aside0.mk (Kd.V_below hb (below_alloc (Below.refl _ w) (.cells (av a B cb x0 x1 y0 y1) 36)))
  have HQ := Aside0.mk (Blk.At.new w (av a B cb x0 x1 y0 y1) 36)
  have HT := Aside0.mk ((Tn.refl g w).alloc (.cells (av a B cb x0 x1 y0 y1) 36))
  have HG := Aside0.mk hg
  have HBG := Aside0.mk hbg
  have HK := Aside0.mk (show k0 a = x0 ∧ k1 a = x1 ∧ c0 a = y0 ∧ c1 a = y1 from by unfold k0 k1 c0 c1; rw [hk, hc]; exact ⟨rfl, rfl, rfl, rfl⟩)
  have q0 : (w.alloc (.cells (av a B cb x0 x1 y0 y1) 36)).cell? ⟨w.heap.size, 0, none⟩ = some (.int .u8 a.kind) := HQ.out.cell 0
  have q1 : (w.alloc (.cells (av a B cb x0 x1 y0 y1) 36)).cell? ⟨w.heap.size, 1, none⟩ = some (.int .i64 a.file) := HQ.out.cell 1
  have q2 : (w.alloc (.cells (av a B cb x0 x1 y0 y1) 36)).cell? ⟨w.heap.size, 2, none⟩ = some (.int .i64 a.n) := HQ.out.cell 2
  have q3 : (w.alloc (.cells (av a B cb x0 x1 y0 y1) 36)).cell? ⟨w.heap.size, 3, none⟩ = some (.bool a.behind) := HQ.out.cell 3
  have q4 : (w.alloc (.cells (av a B cb x0 x1 y0 y1) 36)).cell? ⟨w.heap.size, 4, none⟩ = some (.slice B a.b.length cb) := HQ.out.cell 4
  have q5 : (w.alloc (.cells (av a B cb x0 x1 y0 y1) 36)).cell? ⟨w.heap.size, 5, none⟩ = some (.int .i64 x0) := HQ.out.cell 5
  have q6 : (w.alloc (.cells (av a B cb x0 x1 y0 y1) 36)).cell? ⟨w.heap.size, 6, none⟩ = some (.int .i64 x1) := HQ.out.cell 6
  have q7 : (w.alloc (.cells (av a B cb x0 x1 y0 y1) 36)).cell? ⟨w.heap.size, 7, none⟩ = some (.bool y0) := HQ.out.cell 7
  have q8 : (w.alloc (.cells (av a B cb x0 x1 y0 y1) 36)).cell? ⟨w.heap.size, 8, none⟩ = some (.bool y1) := HQ.out.cell 8
  obtain ⟨W, hW⟩ : ∃ W, W = w.alloc (.cells (av a B cb x0 x1 y0 y1) 36) := ⟨_, rfl⟩
  have hWc : w.alloc (.cells (av a B cb x0 x1 y0 y1) 36) = W := hW.symm
  rw [hWc] at H HV HT q0 q1 q2 q3 q4 q5 q6 q7 q8
  obtain ⟨z, hz⟩ : ∃ z, z = Int.tmod a.kind 8 := ⟨_, rfl⟩
  have hzc : Int.tmod a.kind 8 = z := hz.symm
  have HGG := hg
  unfold doesE doesD
  rw [hzc]
  clear hW hz h hg hb hbg HQ
  have hav : (av a B cb x0 x1 y0 y1) = #[.int .u8 a.kind, .int .i64 a.file, .int .i64 a.n, .bool a.behind, .slice B a.b.length cb, .int .i64 x0, .int .i64 x1, .bool y0, .bool y1] := rfl
  rw [hav] at hWc ⊢
  clear hav
  by_cases t1 : z = 1
  case pos =>
    rw [if_pos t1, if_pos t1]
    have tb : (z == 1) = true := by simpa using t1
    clear t1
    go_enter Try.func12, Try.ntmps12
    go_wp2_with fail
    refine (disk_Sync.all H.out HG.out a.file).mono ?_
    rintro e w1 ⟨rfl, hA, hT⟩
    have HA := Aside0.mk hA
    have HTT := Aside0.mk (HT.out.trans hT)
    clear hA hT
    go_wp2_with fail
    go_ret
    exact ⟨rfl, HA.out, HTT.out⟩
  have t1b : (z == 1) = false := by simpa using t1
  by_cases t2 : z = 2
  case pos =>
    rw [if_neg t1, if_pos t2, if_neg t1, if_pos t2]
    have tb : (z == 2) = true := by simpa using t2
    clear t2
    go_enter Try.func12, Try.ntmps12
    go_wp2_with fail
    refine (disk_Truncate.all H.out HG.out a.file a.n).mono ?_
    rintro e w1 ⟨rfl, hA, hT⟩
    have HA := Aside0.mk hA
    have HTT := Aside0.mk (HT.out.trans hT)
    clear hA hT
    go_wp2_with fail
    go_ret
    exact ⟨rfl, HA.out, HTT.out⟩
  have t2b : (z == 2) = false := by simpa using t2
  by_cases t3 : z = 3
  case pos =>
    rw [if_neg t1, if_neg t2, if_pos t3, if_neg t1, if_neg t2, if_pos t3]
    have tb : (z == 3) = true := by simpa using t3
    clear t3
    go_enter Try.func12, Try.ntmps12
    go_wp2_with fail
    refine (disk_Switch.all H.out HG.out a.file).mono ?_
    rintro e w1 ⟨rfl, hA, hT⟩
    have HA := Aside0.mk hA
    have HTT := Aside0.mk (HT.out.trans hT)
    clear hA hT
    go_wp2_with fail
    go_ret
    exact ⟨rfl, HA.out, HTT.out⟩
  have t3b : (z == 3) = false := by simpa using t3
  by_cases t4 : z = 4
  case pos =>
    rw [if_neg t1, if_neg t2, if_neg t3, if_pos t4, if_neg t1, if_neg t2, if_neg t3, if_pos t4]
    have tb : (z == 4) = true := by simpa using t4
    clear t4
    go_enter Try.func12, Try.ntmps12
    go_wp2_with fail
    refine (disk_Arm.all H.out HG.out a.n a.behind).mono ?_
    rintro e w1 ⟨rfl, hA, hT⟩
    have HA := Aside0.mk hA
    have HTT := Aside0.mk (HT.out.trans hT)
    clear hA hT
    go_wp2_with fail
    go_ret
    exact ⟨rfl, HA.out, HTT.out⟩
  have t4b : (z == 4) = false := by simpa using t4
  by_cases t5 : z = 5
  case pos =>
    rw [if_neg t1, if_neg t2, if_neg t3, if_neg t4, if_pos t5, if_neg t1, if_neg t2, if_neg t3, if_neg t4, if_pos t5]
    have tb : (z == 5) = true := by simpa using t5
    clear t5
    go_enter Try.func12, Try.ntmps12
    go_wp2_with fail
    refine (disk_Fail.calls H.out HG.out.room.pos).mono ?_
    rintro e w1 ⟨rfl, hA, hT⟩
    have HA := Aside0.mk hA
    have HTT := Aside0.mk (HT.out.trans hT)
    clear hA hT
    go_wp2_with fail
    go_ret
    exact ⟨rfl, HA.out, HTT.out⟩
  have t5b : (z == 5) = false := by simpa using t5
  by_cases t6 : z = 6
  case pos =>
    rw [if_neg t1, if_neg t2, if_neg t3, if_neg t4, if_neg t5, if_pos t6, if_neg t1, if_neg t2, if_neg t3, if_neg t4, if_neg t5, if_pos t6]
    rw [HK.out.1, HK.out.2.1, HK.out.2.2.1, HK.out.2.2.2]
    have tb : (z == 6) = true := by simpa using t6
    clear t6
    go_enter Try.func12, Try.ntmps12
    go_wp2_with fail
    refine (disk_Start.all H.out HG.out x0 x1 y0 y1).mono ?_
    rintro e w1 ⟨rfl, hA, hT⟩
    have HA := Aside0.mk hA
    have HTT := Aside0.mk (HT.out.trans hT)
    clear hA hT
    go_wp2_with fail
    go_ret
    exact ⟨rfl, HA.out, HTT.out⟩
  have t6b : (z == 6) = false := by simpa using t6
  rw [if_neg t1, if_neg t2, if_neg t3, if_neg t4, if_neg t5, if_neg t6, if_neg t1, if_neg t2, if_neg t3, if_neg t4, if_neg t5, if_neg t6]
  clear t1 t2 t3 t4 t5 t6
  go_enter Try.func12, Try.ntmps12
  go_wp2_with fail
  refine (disk_Append.all H.out HG.out a.file HV.out HBG.out).mono ?_
  rintro e w1 ⟨rfl, hA, hT⟩
  have HA := Aside0.mk hA
  have HTT := Aside0.mk (HT.out.trans hT)
  clear hA hT
  go_wp2_with fail
  go_ret
  exact ⟨rfl, HA.out, HTT.out⟩
end Go.Proofs.Ytjiboeokockdcaa.Q

