/- A disk's functions, whole. No condition but those typed. -/
import Derived.Test.YtdlfabbhdelinaaShort
import Derived.Test.YtdlfabbhdelinaaWalk0
import Derived.Test.YtdlfabbhdelinaaDisk09
import Derived.Test.YtdlfabbhdelinaaJd2
import Derived.Outline
namespace Go.Proofs.Ytdlfabbhdelinaa.Q
open Go.RowKit Go.Proofs.YtdlfabbhdelinaaW.PrintWords Go.Proofs.YtdlfabbhdelinaaW.PrintLast Go.Proofs.YtdlfabbhdelinaaW.PrintMore
open Go.Proofs.Ytdlfabbhdelinaa.Dk Go.Proofs.Ytdlfabbhdelinaa.Sh
attribute [local go_sem] max2_int min2_int max_two min_two max_three min_three max_four min_four   -- for this text's walks alone
set_option linter.unusedVariables false
set_option linter.unusedSimpArgs false
set_option maxRecDepth 100000
theorem disk_Read.calls {g : Nat} {ok : Nat → Prop} {d : D} {w : World} (h : At g ok d w) (hr : 0 < d.room) (ho : d.off = false) (i : Bool) (hl : (d.fl i).now.length ≤ 140737488355328) :
    Calls Try.prog 35 #[.pointer (some ⟨g, 0, none⟩), .int .i64 (iv i)] w fun e w' => ∃ v', e = .returned (.tuple #[v', .int .i64 0]) ∧ Rb w.heap.size w' v' (d.fl i).now ∧ Below w.heap.size w w' := by
  have H := Aside0.mk h
  have HF := Aside0.mk (disk_file.calls h hr ho i)
  obtain ⟨v0, v1, v2, v3, HA, V0, V1, V2, V3⟩ := h.ex
  obtain ⟨A0, c0, rfl⟩ := Kd.V_slice V0
  obtain ⟨A2, c2, rfl⟩ := Kd.V_slice V2
  cases i
  · simp only [fo, iv] at HF ⊢
    have x : w.cell? ⟨g, 0, none⟩ = some (.slice A0 d.a.now.length c0) := HA.cell 0
    have VV := Aside0.mk V0
    have HL := Aside0.mk hl
    clear HA V0 V1 V2 V3 h hl ho
    go_enter Try.func35, Try.ntmps35
    go_wp2_with fail
    refine HF.out.mono ?_
    rintro e w1 ⟨rfl, rfl⟩
    go_wp2_with fail
    refine (bytes_Clone.calls VV.out HL.out).mono ?_
    rintro e w2 ⟨v', rfl, ho, hb⟩
    obtain ⟨Ac, cc, rfl⟩ := Kd.R_slice ho
    have HO := Aside0.mk ho
    have HB := Aside0.mk hb
    clear ho hb
    go_wp2_with fail
    go_ret2
    exact ⟨_, rfl, HO.out, HB.out⟩
  · simp only [fo, iv] at HF ⊢
    have x : w.cell? ⟨g, 3, none⟩ = some (.slice A2 d.b.now.length c2) := HA.cell 3
    have VV := Aside0.mk V2
    have HL := Aside0.mk hl
    clear HA V0 V1 V2 V3 h hl ho
    go_enter Try.func35, Try.ntmps35
    go_wp2_with fail
    refine HF.out.mono ?_
    rintro e w1 ⟨rfl, rfl⟩
    go_wp2_with fail
    refine (bytes_Clone.calls VV.out HL.out).mono ?_
    rintro e w2 ⟨v', rfl, ho, hb⟩
    obtain ⟨Ac, cc, rfl⟩ := Kd.R_slice ho
    have HO := Aside0.mk ho
    have HB := Aside0.mk hb
    clear ho hb
    go_wp2_with fail
    go_ret2
    exact ⟨_, rfl, HO.out, HB.out⟩
theorem disk_Read.err {v : Value} {i er : Int} {w : World} (hf : Calls Try.prog 58 #[v, .int .i64 i] w fun e w' => e = .returned (.tuple #[.pointer none, .int .i64 er]) ∧ w' = w) (he : er ≠ 0) :
    Calls Try.prog 35 #[v, .int .i64 i] w fun e w' => e = .returned (.tuple #[.slice none 0 0, .int .i64 er]) ∧ w' = w := by
  have HF := Aside0.mk hf
  have heb : (er != 0) = true := by simpa using he
  clear hf he
  go_enter Try.func35, Try.ntmps35
  go_wp2_with fail
  refine HF.out.mono ?_
  rintro e w1 ⟨rfl, rfl⟩
  go_wp2_with fail
  go_ret2
  exact ⟨rfl, rfl⟩
def newD (room : Int) : D := ⟨⟨[], [], -1⟩, ⟨[], [], -1⟩, 0, room, false, -1, false⟩
theorem disk_New.calls {room : Int} {w : World} (h1 : 1 ≤ room) (h2 : room ≤ 1048576) (ok : Nat → Prop) (hn : ¬ ok w.heap.size) (hf : ∀ k, w.heap.size < k → ok k) :
    Calls Try.prog 14 #[.int .i64 room] w fun e w' => e = .returned (.tuple #[.pointer (some ⟨w.heap.size, 0, none⟩), .int .i64 0]) ∧ At w.heap.size ok (newD room) w' ∧ Below w.heap.size w w' := by
  have t1 : decide (room < 1) = false := decide_eq_false (by omega)
  have t2 : decide (room > 1048576) = false := decide_eq_false (by omega)
  have HN := Aside0.mk hn
  have HF := Aside0.mk hf
  clear h1 h2 hn hf
  go_enter Try.func14, Try.ntmps14
  go_wp2_with fail
  go_ret2
  refine ⟨rfl, ⟨HN.out, fun k hk => HF.out k (by rw [size_alloc] at hk; omega), .slice none 0 0, .slice none 0 0, .slice none 0 0, .slice none 0 0, Blk.At.new w _ 93, Kd.V_nil _ _ _ _ _, Kd.V_nil _ _ _ _ _, Kd.V_nil _ _ _ _ _, Kd.V_nil _ _ _ _ _⟩, below_alloc (Below.refl _ _) _⟩
theorem disk_Start.err {v : Value} {w : World} (h : Dead v w) (k0 k1 : Int) (c0 c1 : Bool) :
    Calls Try.prog 24 #[v, .agg #[.int .i64 k0, .int .i64 k1, .bool c0, .bool c1]] w fun e w' => e = .returned (.int .i64 2) ∧ Below w.heap.size w w' := by
  have H := Aside0.mk (h.below (below_alloc (Below.refl _ w) (.cells #[.int .i64 k0, .int .i64 k1, .bool c0, .bool c1] 53)))
  clear h
  go_enter Try.func24, Try.ntmps24
  go_wp2_with fail
  refine (disk_ok.dead H.out).mono ?_
  rintro e w1 ⟨rfl, rfl⟩
  go_wp2_with fail
  go_ret
  exact ⟨rfl, below_alloc (Below.refl _ _) _⟩
theorem disk_Start.on {g : Nat} {ok : Nat → Prop} {d : D} {w : World} (h : At g ok d w) (hr : 0 < d.room) (ho : d.off = false) (k0 k1 : Int) (c0 c1 : Bool) :
    Calls Try.prog 24 #[.pointer (some ⟨g, 0, none⟩), .agg #[.int .i64 k0, .int .i64 k1, .bool c0, .bool c1]] w fun e w' => e = .returned (.int .i64 13) ∧ Below w.heap.size w w' := by
  have H := Aside0.mk (h.below (below_alloc (Below.refl _ w) (.cells #[.int .i64 k0, .int .i64 k1, .bool c0, .bool c1] 53)))
  obtain ⟨v0, v1, v2, v3, HA, _⟩ := H.out.ex
  have x8 : (w.alloc (.cells #[.int .i64 k0, .int .i64 k1, .bool c0, .bool c1] 53)).cell? ⟨g, 8, none⟩ = some (.bool d.off) := HA.cell 8
  rw [ho] at x8
  clear h HA
  go_enter Try.func24, Try.ntmps24
  go_wp2_with fail
  refine (disk_ok.true H.out hr).mono ?_
  rintro e w1 ⟨rfl, rfl⟩
  go_wp2_with fail
  go_ret
  exact ⟨rfl, below_alloc (Below.refl _ _) _⟩
def st0 (d : D) : D := { d with off := false, fuse := -1 }
def st1 (k0 : Int) (c0 : Bool) (d : D) : D := (st0 d).put false (lost k0 c0 d.a)
def strt (k0 k1 : Int) (c0 c1 : Bool) (d : D) : D := (st1 k0 c0 d).put true (lost k1 c1 d.b)
set_option maxHeartbeats 4000000 in
set_option maxRecDepth 100000 in
theorem disk_Start.calls {g : Nat} {ok : Nat → Prop} {d : D} {w : World} (h : At g ok d w) (hr : 0 < d.room) (ho : d.off = true) (ha : FlOk d.a) (hb : FlOk d.b) (k0 k1 : Int) (c0 c1 : Bool) :
    Calls Try.prog 24 #[.pointer (some ⟨g, 0, none⟩), .agg #[.int .i64 k0, .int .i64 k1, .bool c0, .bool c1]] w fun e w' => e = .returned (.int .i64 0) ∧ At g ok (strt k0 k1 c0 c1 d) w' ∧ Tn g w w' := by
  have H := Aside0.mk (h.below (below_alloc (Below.refl _ w) (.cells #[.int .i64 k0, .int .i64 k1, .bool c0, .bool c1] 53)))
  have HQ := Aside0.mk (Blk.At.new w #[.int .i64 k0, .int .i64 k1, .bool c0, .bool c1] 53)
  have HT := Aside0.mk ((Tn.refl g w).alloc (.cells #[.int .i64 k0, .int .i64 k1, .bool c0, .bool c1] 53))
  have hq : w.heap.size ≠ g := fun e => absurd h.lt (by omega)
  have FA : Aside0 (FlOk ((st0 d).fl false)) := ⟨ha⟩
  have FB : Aside0 (FlOk ((st1 k0 c0 d).fl true)) := ⟨hb⟩
  clear h ha hb
  go_enter Try.func24, Try.ntmps24
  go_wp2_with fail
  refine (disk_ok.true H.out hr).mono ?_
  rintro e w1 ⟨rfl, hw1⟩
  generalize hq' : w.heap.size = q at HQ hq hw1 ⊢
  subst hw1
  generalize w.alloc (.cells #[.int .i64 k0, .int .i64 k1, .bool c0, .bool c1] 53) = w1 at H HQ HT ⊢
  obtain ⟨v0, v1, v2, v3, HA, V0, V1, V2, V3⟩ := H.out.ex
  have x8 : w1.cell? ⟨g, 8, none⟩ = some (.bool d.off) := HA.cell 8
  rw [ho] at x8
  have x9 : w1.cell? ⟨g, 9, none⟩ = some (.int .i64 d.fuse) := HA.cell 9
  have z8 : w1.frozen? ⟨g, 8, none⟩ = false := HA.frozen 8
  have z9 : w1.frozen? ⟨g, 9, none⟩ = false := HA.frozen 9
  have T2 := ((Tn.refl g w1).set_own 8 (.bool false)).set_own 9 (.int .i64 (-1))
  have hn := H.out.nok
  have HS := Aside0.mk (show At g ok (st0 d) _ from H.out.turn T2 ((HA.set 8 (.bool false)).set 9 (.int .i64 (-1))) (V_tn V0 hn T2) (V_tn V1 hn T2) (V_tn V2 hn T2) (V_tn V3 hn T2))
  have HQ2 := Aside0.mk (blk_tn HQ.out T2 hq)
  have HT2 := Aside0.mk (HT.out.trans T2)
  clear HA V0 V1 V2 V3 T2 hn
  go_wp2_with fail
  generalize (w1.setCell ⟨g, 8, none⟩ (.bool false)).setCell ⟨g, 9, none⟩ (.int .i64 (-1)) = w2 at HS HQ2 HT2 ⊢
  clear H HQ HT x8 x9 z8 z9
  have D1 : st1 k0 c0 d = (st0 d).put false (lost k0 c0 ((st0 d).fl false)) := rfl
  have D2 : strt k0 k1 c0 c1 d = (st1 k0 c0 d).put true (lost k1 c1 ((st1 k0 c0 d).fl true)) := rfl
  have L0 : ∀ W, At g ok (st0 d) W → Calls Try.prog 49 #[.pointer (some ⟨g, 0, none⟩), .int .i64 k0, .bool c0] W fun e w' => e = .returned (.tuple #[]) ∧ At g ok (st1 k0 c0 d) w' ∧ Tn g W w' := fun W h => file_lose.calls h false k0 c0 FA.out
  have L1 : ∀ W, At g ok (st1 k0 c0 d) W → Calls Try.prog 49 #[.pointer (some ⟨g, 3, none⟩), .int .i64 k1, .bool c1] W fun e w' => e = .returned (.tuple #[]) ∧ At g ok (strt k0 k1 c0 c1 d) w' ∧ Tn g W w' := fun W h => file_lose.calls h true k1 c1 FB.out
  have L0' := Aside0.mk L0
  have L1' := Aside0.mk L1
  clear D1 D2 L0 L1
  go_loopw [22] (fun j wr => ∃ n : Nat, n ≤ 2 ∧ j = .int .i64 n ∧ Aside0 (At g ok (match n with | 0 => st0 d | 1 => st1 k0 c0 d | _ => strt k0 k1 c0 c1 d) wr) ∧ Aside0 (Tn g w wr) ∧ Aside0 (Blk.At q #[.int .i64 k0, .int .i64 k1, .bool c0, .bool c1] 53 wr)) (fun j _ => 2 - (intOf j).toNat)
  case atStart => exact ⟨0, by omega, rfl, HS, HT2, HQ2⟩
  case round =>
    clear HS HT2 HQ2
    obtain ⟨n, hn, rfl, HA, HT, HQ⟩ := hrel
    rcases (by omega : n = 2 ∨ n = 0 ∨ n = 1) with rfl | rfl | rfl
    · go_wp2_with fail
      go_ret
      exact ⟨rfl, HA.out, HT.out⟩
    · have b0 : wr.cell? ⟨q, 0, none⟩ = some (.int .i64 k0) := HQ.out.cell 0
      have b2 : wr.cell? ⟨q, 2, none⟩ = some (.bool c0) := HQ.out.cell 2
      go_wp2_with fail
      refine start_ (n := 14) (S := fun w' => w'.cell? ⟨q, 0, none⟩ = some (.int .i64 k0) ∧ w'.cell? ⟨q, 2, none⟩ = some (.bool c0)) (ds := []) (bl 14 0x0) (by kernel_rfl) rfl (by kernel_rfl) ⟨b0, b2⟩ (fun hHeld => ?_)
      refine pu 0 (some 25) (bl 14 0x1) ?_
      refine pu 1 (some 26) (bl 14 0x3) ?_
      refine pu 2 (some 27) (bl 14 0x7) ?_
      refine pu 3 (some 28) (bl 14 0xf) ?_
      refine pu 4 (some 29) (bl 14 0x1f) ?_
      refine pu 5 (some 30) (bl 14 0x3f) ?_
      refine pu 6 (some 31) (bl 14 0x7f) ?_
      refine pu 7 (some 32) (bl 14 0xff) ?_
      refine pu 9 (some 34) (bl 14 0x2ff) ?_
      refine pu 10 (some 35) (bl 14 0x6ff) ?_
      refine pu 11 (some 36) (bl 14 0xeff) ?_
      refine tk 8 (some 33) (bl 14 0xfff) hHeld ?_
      refine tk 12 (some 37) (bl 14 0x1fff) hHeld ?_
      refine one_ (i := 13) (N := some 38) (bl 14 0x3fff) rfl rfl (by kernel_rfl) (by decide) (fun K hK => ?_)
      refine goes_ Try.func49 (by kernel_rfl) rfl #[.pointer (some ⟨g, 0, none⟩), .int .i64 k0, .bool c0] (by rfl) rfl rfl (by simp only [List.map_toArray, List.map_cons, List.map_nil]; rfl) ?_
      with_reducible refine (L0'.out _ (HA.out.below (below_drew (Below.refl _ _)))).mono ?_
      rintro e w3 ⟨rfl, hA_, hT_⟩
      refine ⟨_, rfl, ?_⟩
      have HA3 := Aside0.mk hA_
      have HT3 := Aside0.mk (HT.out.drew.trans hT_)
      have HQ3 := Aside0.mk (blk_tn HQ.out.drew hT_ hq)
      clear hA_ hT_
      refine hK.out _ _ ⟨HQ3.out.cell 0, HQ3.out.cell 2⟩ (fun hHeld => ?_)
      clear hK K
      refine norm_ (a' := ?_) ?_ ?_
      rotate_left
      · show Act.put _ (some 38) _ = _
        simp only [Act.put, List.setIfInBounds_toArray, List.set_cons_zero, List.set_cons_succ, i64_w, i32_w]
        rfl
      refine done_ (by kernel_rfl) ?_
      go_wp2_with fail
      go_round
      case rel => exact ⟨1, by omega, rfl, HA3, HT3, HQ3⟩
      case measure => simp [intOf]
    · have b0 : wr.cell? ⟨q, 1, none⟩ = some (.int .i64 k1) := HQ.out.cell 1
      have b2 : wr.cell? ⟨q, 3, none⟩ = some (.bool c1) := HQ.out.cell 3
      go_wp2_with fail
      refine start_ (n := 14) (S := fun w' => w'.cell? ⟨q, 1, none⟩ = some (.int .i64 k1) ∧ w'.cell? ⟨q, 3, none⟩ = some (.bool c1)) (ds := []) (bl 14 0x0) (by kernel_rfl) rfl (by kernel_rfl) ⟨b0, b2⟩ (fun hHeld => ?_)
      refine pu 0 (some 25) (bl 14 0x1) ?_
      refine pu 1 (some 26) (bl 14 0x3) ?_
      refine pu 2 (some 27) (bl 14 0x7) ?_
      refine pu 3 (some 28) (bl 14 0xf) ?_
      refine pu 4 (some 29) (bl 14 0x1f) ?_
      refine pu 5 (some 30) (bl 14 0x3f) ?_
      refine pu 6 (some 31) (bl 14 0x7f) ?_
      refine pu 7 (some 32) (bl 14 0xff) ?_
      refine pu 9 (some 34) (bl 14 0x2ff) ?_
      refine pu 10 (some 35) (bl 14 0x6ff) ?_
      refine pu 11 (some 36) (bl 14 0xeff) ?_
      refine tk 8 (some 33) (bl 14 0xfff) hHeld ?_
      refine tk 12 (some 37) (bl 14 0x1fff) hHeld ?_
      refine one_ (i := 13) (N := some 38) (bl 14 0x3fff) rfl rfl (by kernel_rfl) (by decide) (fun K hK => ?_)
      refine goes_ Try.func49 (by kernel_rfl) rfl #[.pointer (some ⟨g, 3, none⟩), .int .i64 k1, .bool c1] (by rfl) rfl rfl (by simp only [List.map_toArray, List.map_cons, List.map_nil]; rfl) ?_
      with_reducible refine (L1'.out _ (HA.out.below (below_drew (Below.refl _ _)))).mono ?_
      rintro e w3 ⟨rfl, hA_, hT_⟩
      refine ⟨_, rfl, ?_⟩
      have HA3 := Aside0.mk hA_
      have HT3 := Aside0.mk (HT.out.drew.trans hT_)
      have HQ3 := Aside0.mk (blk_tn HQ.out.drew hT_ hq)
      clear hA_ hT_
      refine hK.out _ _ ⟨HQ3.out.cell 1, HQ3.out.cell 3⟩ (fun hHeld => ?_)
      clear hK K
      refine norm_ (a' := ?_) ?_ ?_
      rotate_left
      · show Act.put _ (some 38) _ = _
        simp only [Act.put, List.setIfInBounds_toArray, List.set_cons_zero, List.set_cons_succ, i64_w, i32_w]
        rfl
      refine done_ (by kernel_rfl) ?_
      go_wp2_with fail
      go_round
      case rel => exact ⟨2, by omega, rfl, HA3, HT3, HQ3⟩
      case measure => simp [intOf]
/-- What every disk of a law is. -/
structure Good (d : D) : Prop where
  room : Room d
  fuse : -1 ≤ d.fuse ∧ d.fuse < 9223372036854775808
  a : FlOk d.a
  b : FlOk d.b
def fe (d : D) (f : Int) : Int := if f ≠ 0 ∧ f ≠ 1 then 1 else if d.off = true then 12 else 0
def bi (f : Int) : Bool := decide (f = 1)
theorem gate_cases (d : D) (f : Int) : ((f ≠ 0 ∧ f ≠ 1) ∧ fe d f = 1) ∨ ∃ i, f = iv i ∧ bi f = i ∧ ((d.off = true ∧ fe d f = 12) ∨ (d.off = false ∧ fe d f = 0)) := by
  by_cases h : f ≠ 0 ∧ f ≠ 1
  · exact .inl ⟨h, if_pos h⟩
  · refine .inr ?_
    have hh : fe d f = if d.off = true then 12 else 0 := if_neg h
    rw [hh]
    have ho : (d.off = true ∧ (if d.off = true then (12 : Int) else 0) = 12) ∨ (d.off = false ∧ (if d.off = true then (12 : Int) else 0) = 0) := by cases d.off <;> simp
    by_cases h0 : f = 0
    · exact ⟨false, by rw [h0]; rfl, by rw [h0]; rfl, ho⟩
    · have h1 : f = 1 := by
        by_cases h1 : f = 1
        · exact h1
        · exact absurd ⟨h0, h1⟩ h
      exact ⟨true, by rw [h1]; rfl, by rw [h1]; rfl, ho⟩
theorem disk_file.er {g : Nat} {ok : Nat → Prop} {d : D} {w : World} (h : At g ok d w) (hr : 0 < d.room) (f : Int) (hf : fe d f ≠ 0) :
    Calls Try.prog 58 #[.pointer (some ⟨g, 0, none⟩), .int .i64 f] w fun e w' => e = .returned (.tuple #[.pointer none, .int .i64 (fe d f)]) ∧ w' = w := by
  rcases gate_cases d f with ⟨hn, he⟩ | ⟨i, rfl, _, ⟨ho, he⟩ | ⟨_, he⟩⟩
  · rw [he]; exact disk_file.arg h hr f hn
  · rw [he]; exact disk_file.down h hr ho i
  · exact absurd he hf
def gateE (d : D) (f e : Int) : Int := if fe d f ≠ 0 then fe d f else e
def gateD (d : D) (f : Int) (d' : D) : D := if fe d f ≠ 0 then d else d'
theorem gate_open {d : D} {f : Int} (hf : ¬ fe d f ≠ 0) : ∃ i, f = iv i ∧ bi f = i ∧ d.off = false := by
  rcases gate_cases d f with ⟨hn, he⟩ | ⟨i, h1, h2, ⟨ho, he⟩ | ⟨ho, he⟩⟩
  · exact absurd (by rw [he]; decide) hf
  · exact absurd (by rw [he]; decide) hf
  · exact ⟨i, h1, h2, ho⟩
theorem disk_Sync.all {g : Nat} {ok : Nat → Prop} {d : D} {w : World} (h : At g ok d w) (hg : Good d) (f : Int) :
    Calls Try.prog 47 #[.pointer (some ⟨g, 0, none⟩), .int .i64 f] w fun e w' => e = .returned (.int .i64 (gateE d f (actE 0 d))) ∧ At g ok (gateD d f (actD 0 (syn (bi f)) d)) w' ∧ Tn g w w' := by
  by_cases hf : fe d f ≠ 0
  · rw [show gateE d f (actE 0 d) = fe d f from if_pos hf, show gateD d f (actD 0 (syn (bi f)) d) = d from if_pos hf]
    exact (disk_Sync.err (disk_file.er h hg.room.pos f hf) hf).mono (fun e w' q => ⟨q.1, q.2 ▸ h, q.2 ▸ Tn.refl g w⟩)
  · rw [show gateE d f (actE 0 d) = actE 0 d from if_neg hf, show gateD d f (actD 0 (syn (bi f)) d) = actD 0 (syn (bi f)) d from if_neg hf]
    obtain ⟨i, h1, h2, ho⟩ := gate_open hf
    rw [h2, h1]
    exact disk_Sync.calls h hg.room.pos ho hg.fuse.2 i
theorem disk_Truncate.all {g : Nat} {ok : Nat → Prop} {d : D} {w : World} (h : At g ok d w) (hg : Good d) (f : Int) (n : Int) :
    Calls Try.prog 52 #[.pointer (some ⟨g, 0, none⟩), .int .i64 f, .int .i64 n] w fun e w' => e = .returned (.int .i64 (gateE d f (actE (troom n (d.fl (bi f))) d))) ∧ At g ok (gateD d f (actD (troom n (d.fl (bi f))) (tru (bi f) n) d)) w' ∧ Tn g w w' := by
  by_cases hf : fe d f ≠ 0
  · rw [show gateE d f (actE (troom n (d.fl (bi f))) d) = fe d f from if_pos hf, show gateD d f (actD (troom n (d.fl (bi f))) (tru (bi f) n) d) = d from if_pos hf]
    exact (disk_Truncate.err n (fun W hW => disk_file.er (h.below hW) hg.room.pos f hf) hf).mono (fun e w' q => ⟨q.1, h.below q.2, Tn.of_below q.2⟩)
  · rw [show gateE d f (actE (troom n (d.fl (bi f))) d) = actE (troom n (d.fl (bi f))) d from if_neg hf, show gateD d f (actD (troom n (d.fl (bi f))) (tru (bi f) n) d) = actD (troom n (d.fl (bi f))) (tru (bi f) n) d from if_neg hf]
    obtain ⟨i, h1, h2, ho⟩ := gate_open hf
    rw [h2, h1]
    exact disk_Truncate.calls h hg.room.pos ho hg.fuse.2 i n
theorem disk_Switch.all {g : Nat} {ok : Nat → Prop} {d : D} {w : World} (h : At g ok d w) (hg : Good d) (f : Int) :
    Calls Try.prog 51 #[.pointer (some ⟨g, 0, none⟩), .int .i64 f] w fun e w' => e = .returned (.int .i64 (gateE d f (actE 0 d))) ∧ At g ok (gateD d f (actD 0 (swi f) d)) w' ∧ Tn g w w' := by
  by_cases hf : fe d f ≠ 0
  · rw [show gateE d f (actE 0 d) = fe d f from if_pos hf, show gateD d f (actD 0 (swi f) d) = d from if_pos hf]
    exact (disk_Switch.err (fun W hW => disk_file.er (h.below hW) hg.room.pos f hf) hf).mono (fun e w' q => ⟨q.1, h.below q.2, Tn.of_below q.2⟩)
  · rw [show gateE d f (actE 0 d) = actE 0 d from if_neg hf, show gateD d f (actD 0 (swi f) d) = actD 0 (swi f) d from if_neg hf]
    obtain ⟨i, h1, h2, ho⟩ := gate_open hf
    rw [h1]
    exact disk_Switch.calls h hg.room.pos ho hg.fuse.2 i
theorem disk_Append.all {g : Nat} {ok : Nat → Prop} {d : D} {w : World} (h : At g ok d w) (hg : Good d) (f : Int) {okb : Nat → Prop} {bv : Value} {b : List Int} (hb : Vb okb w bv b) (hbg : ¬ okb g) :
    Calls Try.prog 46 #[.pointer (some ⟨g, 0, none⟩), .int .i64 f, bv] w fun e w' => e = .returned (.int .i64 (gateE d f (actE (room1 d b.length) d))) ∧ At g ok (gateD d f (actD (room1 d b.length) (app (bi f) b) d)) w' ∧ Tn g w w' := by
  by_cases hf : fe d f ≠ 0
  · rw [show gateE d f (actE (room1 d b.length) d) = fe d f from if_pos hf, show gateD d f (actD (room1 d b.length) (app (bi f) b) d) = d from if_pos hf]
    obtain ⟨B, cb, rfl⟩ := Kd.V_slice hb
    exact (disk_Append.err (fun W hW => disk_file.er (h.below hW) hg.room.pos f hf) hf).mono (fun e w' q => ⟨q.1, h.below q.2, Tn.of_below q.2⟩)
  · rw [show gateE d f (actE (room1 d b.length) d) = actE (room1 d b.length) d from if_neg hf, show gateD d f (actD (room1 d b.length) (app (bi f) b) d) = actD (room1 d b.length) (app (bi f) b) d from if_neg hf]
    obtain ⟨i, h1, h2, ho⟩ := gate_open hf
    rw [h2, h1]
    exact disk_Append.calls h hg.room ho hg.fuse.2 i hb hbg
def startD (k0 k1 : Int) (c0 c1 : Bool) (d : D) : D := if d.off = true then strt k0 k1 c0 c1 d else d
def startE (d : D) : Int := if d.off = true then 0 else 13
theorem disk_Start.all {g : Nat} {ok : Nat → Prop} {d : D} {w : World} (h : At g ok d w) (hg : Good d) (k0 k1 : Int) (c0 c1 : Bool) :
    Calls Try.prog 24 #[.pointer (some ⟨g, 0, none⟩), .agg #[.int .i64 k0, .int .i64 k1, .bool c0, .bool c1]] w fun e w' => e = .returned (.int .i64 (startE d)) ∧ At g ok (startD k0 k1 c0 c1 d) w' ∧ Tn g w w' := by
  unfold startE startD
  by_cases ho : d.off = true
  · rw [if_pos ho, if_pos ho]
    exact disk_Start.calls h hg.room.pos ho hg.a hg.b k0 k1 c0 c1
  · rw [if_neg ho, if_neg ho]
    exact (disk_Start.on h hg.room.pos (by simpa using ho) k0 k1 c0 c1).mono (fun e w' q => ⟨q.1, h.below q.2, Tn.of_below q.2⟩)
def armD (n : Int) (b : Bool) (d : D) : D := { d with fuse := (if n < -1 then -1 else n), behind := b }
theorem disk_Arm.all {g : Nat} {ok : Nat → Prop} {d : D} {w : World} (h : At g ok d w) (hg : Good d) (n : Int) (b : Bool) :
    Calls Try.prog 21 #[.pointer (some ⟨g, 0, none⟩), .int .i64 n, .bool b] w fun e w' => e = .returned (.tuple #[]) ∧ At g ok (armD n b d) w' ∧ Tn g w w' := disk_Arm.calls h hg.room.pos n b
theorem V_block {w : World} {g : Nat} {xs : List Int} {n : Nat} {fr : Nat × Nat} (h : w.heap[g]? = some (.cells (nums .u8 xs).toArray 5 fr)) (hn : xs.length = n) (hm : n ≤ 9223372036854775807) : Vb (fun k => k = g) w (.slice (some ⟨g, 0, none⟩) n n) xs := by
  subst hn
  refine Kd.V_mk (Nat.le_refl _) (fun W' hW => ?_)
  have h' : W'.heap[g]? = some (.cells (nums .u8 xs).toArray 5 fr) := (hW g rfl (Array.getElem?_eq_some_iff.1 h).1).trans h
  exact Kd.C_ints_block (k := .u8) (xs := xs) h' (by simp [nums, List.take_of_length_le]) hm
theorem good_new {room : Int} (h1 : 1 ≤ room) (h2 : room ≤ 1048576) : Good (newD room) :=
  ⟨⟨show 0 < room by omega, h2, show 0 ≤ 1048576 by decide, show 0 ≤ 1048576 by decide⟩, ⟨show (-1 : Int) ≤ -1 by decide, show (-1 : Int) < 9223372036854775808 by decide⟩, ⟨show 0 ≤ 1048576 by decide, show 0 ≤ 1048576 by decide, .inl ⟨rfl, List.prefix_refl _⟩⟩, ⟨show 0 ≤ 1048576 by decide, show 0 ≤ 1048576 by decide, .inl ⟨rfl, List.prefix_refl _⟩⟩⟩
theorem disk_Read.all {g : Nat} {ok : Nat → Prop} {d : D} {w : World} (h : At g ok d w) (hg : Good d) (f : Int) :
    Calls Try.prog 35 #[.pointer (some ⟨g, 0, none⟩), .int .i64 f] w fun e w' => ∃ v', e = .returned (.tuple #[v', .int .i64 (fe d f)]) ∧ Rb w.heap.size w' v' (if fe d f ≠ 0 then [] else (d.fl (bi f)).now) ∧ Below w.heap.size w w' := by
  by_cases hf : fe d f ≠ 0
  · rw [if_pos hf]
    exact (disk_Read.err (disk_file.er h hg.room.pos f hf) hf).mono (fun e w' q => ⟨_, q.1, Kd.R_nil _ _ _ _ _, q.2 ▸ Below.refl _ _⟩)
  · rw [if_neg hf]
    obtain ⟨i, h1, h2, ho⟩ := gate_open hf
    rw [show fe d f = 0 from by simpa using hf, h2, h1]
    refine disk_Read.calls h hg.room.pos ho i ?_
    have h3 := hg.a.now
    have h4 := hg.b.now
    cases i <;> simp only [D.fl] <;> omega
theorem good_fl {d d' : D} (h : Good d) (ha : d'.a = d.a) (hb : d'.b = d.b) (hr : d'.room = d.room) (hf : -1 ≤ d'.fuse ∧ d'.fuse < 9223372036854775808) : Good d' :=
  ⟨⟨hr ▸ h.room.pos, hr ▸ h.room.most, ha ▸ h.room.la, hb ▸ h.room.lb⟩, hf, ha ▸ h.a, hb ▸ h.b⟩
theorem good_put {d : D} (h : Good d) (i : Bool) {x : Fl} (hx : FlOk x) : Good (d.put i x) := by
  cases i
  · exact ⟨⟨h.room.pos, h.room.most, hx.now, h.room.lb⟩, h.fuse, hx, h.b⟩
  · exact ⟨⟨h.room.pos, h.room.most, h.room.la, hx.now⟩, h.fuse, h.a, hx⟩
theorem flok {d : D} (h : Good d) (i : Bool) : FlOk (d.fl i) := by
  cases i
  · exact h.a
  · exact h.b
theorem good_act {d : D} {m : Int} {dof : D → D} (h : Good d) (hd : m = 0 → ∀ f o, Good { d with fuse := f, off := o } → Good (dof { d with fuse := f, off := o })) : Good (actD m dof d) := by
  unfold actD
  by_cases hm : m ≠ 0
  · rw [if_pos hm]; exact h
  rw [if_neg hm]
  have hm0 : m = 0 := by simpa using hm
  have hf := h.fuse
  by_cases h1 : 0 < d.fuse
  · rw [if_pos h1]
    exact hd hm0 (d.fuse - 1) d.off (good_fl h rfl rfl rfl (by constructor <;> (show _ ; simp only []; omega)))
  rw [if_neg h1]
  by_cases h2 : d.fuse = 0
  · rw [if_pos h2]
    have hg : Good { d with fuse := -1, off := true } := good_fl h rfl rfl rfl ⟨show (-1 : Int) ≤ -1 by decide, show (-1 : Int) < 9223372036854775808 by decide⟩
    by_cases h3 : d.behind = true
    · rw [if_pos h3]; exact hd hm0 (-1) true hg
    · rw [if_neg h3]; exact hg
  rw [if_neg h2]
  exact hd hm0 d.fuse d.off h
theorem good_gate {d d' : D} {f : Int} (h : Good d) (h' : Good d') : Good (gateD d f d') := by
  unfold gateD
  split
  · exact h
  · exact h'
theorem flok_syn {f : Fl} (h : FlOk f) : FlOk ⟨f.now, f.now, -1⟩ := ⟨h.now, h.now, .inl ⟨rfl, List.prefix_refl _⟩⟩
theorem flok_app {f : Fl} (h : FlOk f) {b : List Int} (hb : f.now.length + b.length ≤ 1048576) : FlOk { f with now := f.now ++ b } := by
  refine ⟨by show (f.now ++ b).length ≤ 1048576; rw [List.length_append]; exact hb, h.sure, ?_⟩
  rcases h.cut with ⟨h1, h2⟩ | ⟨h1, h2, h3⟩
  · exact .inl ⟨h1, h2.trans (List.prefix_append _ _)⟩
  · exact .inr ⟨h1, h2, h3.trans (List.prefix_append _ _)⟩
def truF (n : Int) (f : Fl) : Fl := { f with now := f.now.take n.toNat, cut := if n < (f.sure.length : Int) ∧ (f.cut = -1 ∨ n < f.cut) then n else f.cut }
theorem flok_tru {f : Fl} (h : FlOk f) {n : Int} (h0 : 0 ≤ n) (h1 : n ≤ f.now.length) : FlOk (truF n f) := by
  refine ⟨?_, h.sure, ?_⟩
  · show (f.now.take n.toNat).length ≤ 1048576
    rw [List.length_take]
    have := h.now
    omega
  unfold truF
  simp only []
  by_cases hc : n < (f.sure.length : Int) ∧ (f.cut = -1 ∨ n < f.cut)
  · rw [if_pos hc]
    refine .inr ⟨h0, hc.1, ?_⟩
    rw [List.prefix_take_iff]
    refine ⟨?_, by rw [List.length_take]; omega⟩
    rcases h.cut with ⟨_, h3⟩ | ⟨h2, h3, h4⟩
    · exact (List.take_prefix _ _).trans h3
    · have h5 : n < f.cut := by rcases hc.2 with h5 | h5 <;> omega
      have h6 : f.sure.take n.toNat <+: f.sure.take f.cut.toNat := by
        rw [List.prefix_take_iff]
        exact ⟨List.take_prefix _ _, by rw [List.length_take]; omega⟩
      exact h6.trans h4
  · rw [if_neg hc]
    rcases h.cut with ⟨h2, h3⟩ | ⟨h2, h3, h4⟩
    · refine .inl ⟨h2, ?_⟩
      rw [List.prefix_take_iff]
      refine ⟨h3, ?_⟩
      by_cases h5 : n < (f.sure.length : Int)
      · exact absurd ⟨h5, .inl h2⟩ hc
      · omega
    · refine .inr ⟨h2, h3, ?_⟩
      rw [List.prefix_take_iff]
      refine ⟨h4, ?_⟩
      rw [List.length_take]
      by_cases h5 : n < f.cut
      · exact absurd ⟨by omega, .inr h5⟩ hc
      · omega
theorem lostT_len {keep : Int} {b : List Int} {f : Fl} (hb : b.length ≤ f.now.length) : (lostT keep b f).length ≤ f.now.length := by
  unfold lostT
  rw [List.length_append, List.length_take, List.length_drop]
  omega
theorem flok_lost {f : Fl} (h : FlOk f) (keep : Int) (cut : Bool) : FlOk (lost keep cut f) := by
  have key : ∀ z : List Int, z.length ≤ 1048576 → FlOk ⟨z, z, -1⟩ := fun z hz => ⟨hz, hz, .inl ⟨rfl, List.prefix_refl _⟩⟩
  have hn := h.now
  have hs := h.sure
  by_cases hc : f.cut = -1
  · rw [lost_none hc]
    have := lostT_len (keep := keep) (h.none hc).length_le
    exact key _ (by omega)
  · cases cut
    · rw [lost_keep hc]
      exact key _ hs
    · rw [lost_cut hc]
      have := lostT_len (keep := keep) (h.some hc).2.2.length_le
      exact key _ (by omega)
theorem good_tru {d : D} (h : Good d) (i : Bool) {n : Int} (hm : troom n (d.fl i) = 0) : Good (tru i n d) := by
  have hb : ¬ (n < 0 ∨ ((d.fl i).now.length : Int) < n) := fun hh => by
    rw [show troom n (d.fl i) = 1 from if_pos hh] at hm
    cases hm
  exact good_put h i (flok_tru (flok h i) (by omega) (by omega))
theorem good_app {d : D} (h : Good d) (i : Bool) {b : List Int} (hm : room1 d b.length = 0) : Good (app i b d) := by
  have hb : ¬ (d.room - d.a.now.length - d.b.now.length < b.length) := fun hh => by
    rw [show room1 d b.length = 11 from if_pos hh] at hm
    cases hm
  have hr := h.room.most
  refine good_put h i (flok_app (flok h i) ?_)
  cases i <;> simp only [D.fl] <;> omega
theorem fl_same (d : D) (f : Int) (o : Bool) (i : Bool) : ({ d with fuse := f, off := o } : D).fl i = d.fl i := by cases i <;> rfl
theorem good_arm {d : D} (h : Good d) {n : Int} (b : Bool) (hn : n < 9223372036854775808) : Good (armD n b d) :=
  good_fl h rfl rfl rfl (by show -1 ≤ (if n < -1 then -1 else n) ∧ (if n < -1 then -1 else n) < 9223372036854775808; split <;> omega)
theorem good_start {d : D} (h : Good d) (x0 x1 : Int) (y0 y1 : Bool) : Good (startD x0 x1 y0 y1 d) := by
  unfold startD
  split
  · have h0 : Good (st0 d) := good_fl h rfl rfl rfl ⟨by show (-1 : Int) ≤ -1; decide, by show (-1 : Int) < 9223372036854775808; decide⟩
    have h1 : Good (st1 x0 y0 d) := good_put h0 false (flok_lost h.a x0 y0)
    exact good_put h1 true (flok_lost h.b x1 y1)
  · exact h
theorem actD_calm {d : D} {m : Int} {dof : D → D} (hf : d.fuse = -1) : actD m dof d = if m ≠ 0 then d else dof d := by
  unfold actD
  rw [if_neg (show ¬ (0 < d.fuse) by omega), if_neg (show ¬ (d.fuse = 0) by omega)]
theorem off_syn (i : Bool) (d : D) : (syn i d).off = d.off := by cases i <;> rfl
theorem off_tru (i : Bool) (n : Int) (d : D) : (tru i n d).off = d.off := by cases i <;> rfl
theorem off_app (i : Bool) (b : List Int) (d : D) : (app i b d).off = d.off := by cases i <;> rfl
theorem fuse_syn (i : Bool) (d : D) : (syn i d).fuse = d.fuse := by cases i <;> rfl
theorem fuse_tru (i : Bool) (n : Int) (d : D) : (tru i n d).fuse = d.fuse := by cases i <;> rfl
theorem fuse_app (i : Bool) (b : List Int) (d : D) : (app i b d).fuse = d.fuse := by cases i <;> rfl
/-- What was refused, the power on as before, turned nothing. -/
theorem gate_same {d : D} {f m : Int} {dof : D → D} (hE : gateE d f (actE m d) ≠ 0) (hO : (gateD d f (actD m dof d)).off = d.off) (hoff : ∀ d', (dof d').off = d'.off) : gateD d f (actD m dof d) = d := by
  unfold gateE at hE
  unfold gateD at hO ⊢
  by_cases hf : fe d f ≠ 0
  · rw [if_pos hf]
  rw [if_neg hf] at hE hO ⊢
  obtain ⟨i, _, _, ho⟩ := gate_open hf
  unfold actE at hE
  unfold actD at hO ⊢
  by_cases hm : m ≠ 0
  · rw [if_pos hm]
  rw [if_neg hm] at hE hO ⊢
  by_cases h2 : d.fuse = 0
  · exfalso
    rw [if_neg (show ¬ (0 < d.fuse) by omega), if_pos h2, ho] at hO
    split at hO
    · rw [hoff] at hO
      cases hO
    · cases hO
  · rw [if_neg h2] at hE
    exact absurd rfl hE
theorem at_skip {g : Nat} {ok : Nat → Prop} {d : D} {w w1 : World} (h : At g ok d w) (hb : Below w.heap.size w w1) : At g (fun k => ok k ∧ (k < w.heap.size ∨ w1.heap.size ≤ k)) d w1 := by
  have hl := h.lt
  obtain ⟨v0, v1, v2, v3, hA, h0, h1, h2, h3⟩ := h.ex
  have m : ∀ {v xs}, Vb ok w v xs → Vb (fun k => ok k ∧ (k < w.heap.size ∨ w1.heap.size ≤ k)) w1 v xs := fun hv => Kd.V_mono (Kd.V_below (Kd.V_bound hv) hb) (fun k hk => ⟨hk.1, .inl hk.2⟩)
  exact ⟨fun hk => h.nok hk.1, fun k hk => ⟨h.fresh k (Nat.le_trans hb.size hk), .inr hk⟩, v0, v1, v2, v3, hA.below hb hl, m h0, m h1, m h2, m h3⟩
theorem V_arg {w : World} {B : Option Addr} {cb : Nat} {b : List Int} (h : (Kd.int .u8).C w B b.length b) (hc : b.length ≤ cb) : Vb (fun k => k < w.heap.size) w (.slice B b.length cb) b :=
  Kd.V_mono (Kd.V_bound (Kd.V_mk (ok := fun _ => True) hc (fun W' hW => (Kd.heap_int _).C (fun k hk => hW k trivial hk) h))) (fun k hk => hk.2)
/-- Bytes of the call's own, beside the disk. -/
structure Mine (g base : Nat) (v : Value) (xs : List Int) (w : World) : Prop where
  own : w.ownsRow base 5 1 v xs.length (nums .u8 xs)
  far : ∀ k, v.ownBlock = some k → k ≠ g
theorem Mine.tn {g base : Nat} {v : Value} {xs : List Int} {w w1 : World} (h : Mine g base v xs w) (T : Tn g w w1) : Mine g base v xs w1 :=
  ⟨own_other h.own T.grown (Classical.or_iff_not_imp_left.2 (fun _ e => h.far g e rfl)), h.far⟩
theorem Mine.below {g base : Nat} {v : Value} {xs : List Int} {w w1 : World} (h : Mine g base v xs w) (hb : Below w.heap.size w w1) : Mine g base v xs w1 := h.tn (Tn.of_below hb)
theorem Mine.str {g base : Nat} {v : Value} {xs : List Int} {w : World} (h : Mine g base v xs w) : (convert 22 9 v).run Try.prog w = .ok (.string (strOfNums xs)) w :=
  own_string (P := Try.prog) Try.underlying22 Try.underlying5 Try.underlying9 h.own
theorem Mine.of_R {g base : Nat} {v : Value} {xs : List Int} {w : World} (h : Rb base w v xs) (hg : g < base) : Mine g base v xs w :=
  ⟨Kd.own_of_R h, fun k hk => by have := Kd.R_base h k hk; omega⟩
/-- What a read of a file answers. -/
def rdL (d : D) (i : Bool) : List Int := if d.off = true then [] else (d.fl i).now
def rdE (d : D) : Int := if d.off = true then 12 else 0
theorem fe_iv (d : D) (i : Bool) : fe d (iv i) = rdE d := by
  unfold fe rdE
  rw [if_neg]
  cases i
  · exact fun h => h.1 rfl
  · exact fun h => h.2 rfl
theorem bi_iv (i : Bool) : bi (iv i) = i := by cases i <;> rfl
theorem disk_Read.at {g : Nat} {ok : Nat → Prop} {d : D} {w : World} (h : At g ok d w) (hg : Good d) (i : Bool) :
    Calls Try.prog 35 #[.pointer (some ⟨g, 0, none⟩), .int .i64 (iv i)] w fun e w' => ∃ v', e = .returned (.tuple #[v', .int .i64 (rdE d)]) ∧ Mine g w.heap.size v' (rdL d i) w' ∧ Below w.heap.size w w' := by
  have := disk_Read.all h hg (iv i)
  rw [fe_iv, bi_iv] at this
  refine this.mono ?_
  rintro e w' ⟨v', h1, h2, h3⟩
  refine ⟨v', h1, Mine.of_R ?_ h.lt, h3⟩
  unfold rdL
  unfold rdE at h2
  cases ho : d.off
  · rw [ho] at h2
    exact h2
  · rw [ho] at h2
    exact h2
def rtV (d : D) : Int := if d.off = true then 0 else d.root
theorem disk_Root.at {g : Nat} {ok : Nat → Prop} {d : D} {w : World} (h : At g ok d w) (hr : 0 < d.room) :
    Calls Try.prog 34 #[.pointer (some ⟨g, 0, none⟩)] w fun e w' => e = .returned (.tuple #[.int .i64 (rtV d), .int .i64 (rdE d)]) ∧ w' = w := disk_Root.calls h hr
theorem fe_arg {d : D} {f : Int} (h : f ≠ 0 ∧ f ≠ 1) : fe d f = 1 := if_pos h
theorem fe_on {d : D} (ho : d.off = false) (i : Bool) : fe d (iv i) = 0 := by
  rw [fe_iv]
  unfold rdE
  rw [ho]
  rfl
theorem fl_put_same (d : D) (i : Bool) (x : Fl) : (d.put i x).fl i = x := by cases i <;> rfl
theorem fl_put_other (d : D) (i j : Bool) (x : Fl) (h : j ≠ i) : (d.put i x).fl j = d.fl j := by cases i <;> cases j <;> first | rfl | exact absurd rfl h
theorem root_put (d : D) (i : Bool) (x : Fl) : (d.put i x).root = d.root := by cases i <;> rfl
theorem off_put (d : D) (i : Bool) (x : Fl) : (d.put i x).off = d.off := by cases i <;> rfl
theorem fuse_put (d : D) (i : Bool) (x : Fl) : (d.put i x).fuse = d.fuse := by cases i <;> rfl
theorem mn_le (x y : Int) : mn x y ≤ x ∧ mn x y ≤ y ∧ (mn x y = x ∨ mn x y = y) := by
  unfold mn
  split <;> omega
/-- Behind a loss. -/
theorem lost_is {f : Fl} (h : FlOk f) {n : Int} (hn : 0 ≤ n ∧ (f.cut = -1 → n ≤ (f.sure.length : Int)) ∧ (f.cut ≠ -1 → n ≤ f.cut)) (keep : Int) (cut : Bool) :
    n ≤ ((lost keep cut f).now.length : Int) ∧ n ≤ (f.sure.length : Int) ∧ (lost keep cut f).now.take n.toNat = f.sure.take n.toNat ∧ ((lost keep cut f).now = f.sure ∨ (lost keep cut f).now <+: f.now) ∧ (lost keep cut f).now.length ≤ 1048576 := by
  have hlen := (flok_lost h keep cut).now
  have hT : ∀ b : List Int, b <+: f.now → lostT keep b f <+: f.now := fun b hb => by
    obtain ⟨t, ht⟩ := hb
    unfold lostT
    rw [← ht, List.drop_append_of_le_length (Nat.le_refl _), List.drop_length, List.nil_append, List.prefix_append_right_inj]
    exact List.take_prefix _ _
  by_cases hc : f.cut = -1
  · rw [lost_none hc] at hlen ⊢
    have h1 := hn.2.1 hc
    refine ⟨?_, h1, ?_, .inr (hT _ (h.none hc)), hlen⟩
    · show n ≤ ((lostT keep f.sure f).length : Int)
      unfold lostT
      rw [List.length_append]
      omega
    · show (lostT keep f.sure f).take n.toNat = _
      unfold lostT
      rw [List.take_append_of_le_length (by omega)]
  · have h2 := hn.2.2 hc
    obtain ⟨c0, c1, c2⟩ := h.some hc
    cases cut
    · rw [lost_keep hc] at hlen ⊢
      exact ⟨by show n ≤ (f.sure.length : Int); omega, by omega, rfl, .inl rfl, hlen⟩
    · rw [lost_cut hc] at hlen ⊢
      have hk : (f.sure.take f.cut.toNat).length = f.cut.toNat := by rw [List.length_take]; omega
      refine ⟨?_, by omega, ?_, .inr (hT _ c2), hlen⟩
      · show n ≤ ((lostT keep (f.sure.take f.cut.toNat) f).length : Int)
        unfold lostT
        rw [List.length_append, hk]
        omega
      · show (lostT keep (f.sure.take f.cut.toNat) f).take n.toNat = _
        unfold lostT
        rw [List.take_append_of_le_length (by rw [hk]; omega), List.take_take, Nat.min_eq_left (by omega)]
/-- Bytes of the call's own, in no block that is bad. -/
structure Rw (bad : Nat → Prop) (v : Value) (xs : List Int) (w : World) : Prop where
  own : w.ownsRow 0 5 1 v xs.length (nums .u8 xs)
  far : ∀ k, v.ownBlock = some k → ¬ bad k
namespace Rw
variable {bad bad' : Nat → Prop} {v : Value} {xs : List Int} {w w1 : World}
theorem nil (bad : Nat → Prop) (w : World) : Rw bad (.slice none 0 0) [] w := ⟨own_nil _ _ _ _, fun k hk => by simp [Value.ownBlock] at hk⟩
theorem other (h : Rw bad v xs w) {row : Option Nat} (hg : w.grownBy w1 row) (hr : ∀ k, row = some k → bad k) : Rw bad v xs w1 :=
  ⟨own_other h.own hg (Classical.or_iff_not_imp_left.2 (fun hn e => by
    cases hv : v.ownBlock with
    | none => exact hn hv
    | some k => exact h.far k hv (hr k (e ▸ hv)))), h.far⟩
theorem tn {g : Nat} (h : Rw bad v xs w) (T : Tn g w w1) (hb : bad g) : Rw bad v xs w1 := h.other T.grown (fun k e => by cases e; exact hb)
theorem below (h : Rw bad v xs w) (hb : Below w.heap.size w w1) : Rw bad v xs w1 := h.other (grown_of_below hb none) (fun k e => by cases e)
theorem set (h : Rw bad v xs w) {q : Nat} (hq : bad q) (i : Nat) (u : Value) : Rw bad v xs (w.setCell ⟨q, i, none⟩ u) :=
  ⟨own_setCell h.own (fun e => h.far q e.symm hq) u, h.far⟩
theorem more (h : Rw bad v xs w) (hb : ∀ k, bad' k → bad k ∨ w.heap.size ≤ k) : Rw bad' v xs w :=
  ⟨h.own, fun k hk hbk => (hb k hbk).elim (h.far k hk) (fun hs => by have := own_lt h.own k hk; omega)⟩
theorem of_R {base : Nat} (h : Rb base w v xs) (hb : ∀ k, base ≤ k → ¬ bad k) : Rw bad v xs w := ⟨own_less (Kd.own_of_R h) (Nat.zero_le _), fun k hk => hb k (Kd.R_base h k hk)⟩
theorem slice (h : Rw bad v xs w) : ∃ A c, v = .slice A xs.length c := own_slice h.own
theorem cap {A : Option Addr} {n c : Nat} (h : Rw bad (.slice A n c) xs w) : n = xs.length ∧ xs.length ≤ c := by
  have hr : Kd.R (Kd.int .u8) 5 w 0 (fun _ => True) (.slice A n c) xs := Kd.R_of_own h.own (fun _ _ => trivial)
  have := Kd.R_reads' hr
  exact ⟨this.1, this.1 ▸ this.2.1⟩
theorem str (h : Rw bad v xs w) : (convert 22 9 v).run Try.prog w = .ok (.string (strOfNums xs)) w :=
  own_string (P := Try.prog) Try.underlying22 Try.underlying5 Try.underlying9 h.own
theorem take {A : Option Addr} {n c : Nat} (h : Rw bad (.slice A n c) xs w) {m : Nat} (hm : m ≤ xs.length) : Rw bad (.slice A m c) (xs.take m) w := by
  obtain ⟨rfl, _⟩ := h.cap
  have hl : (xs.take m).length = m := by rw [List.length_take]; omega
  have := own_take h.own hm
  rw [Nat.mul_one] at this
  refine ⟨?_, fun k hk => h.far k ?_⟩
  · rw [hl]
    have e : nums .u8 (xs.take m) = (nums .u8 xs).take m := by simp [nums, List.map_take]
    rw [e]
    exact this
  · cases A with
    | none => simp [Value.ownBlock] at hk
    | some a => simpa [Value.ownBlock] using hk
end Rw
theorem read_rw' {g : Nat} {ok bad : Nat → Prop} {W : World} {d : D} (hb : ∀ k, bad k → k < W.heap.size) (hA : At g ok d W) (hg : Good d) (ho : d.off = false) (i : Bool) :
    Calls Try.prog 35 #[.pointer (some ⟨g, 0, none⟩), .int .i64 (iv i)] W fun e w' => ∃ A c, e = .returned (.tuple #[.slice A (d.fl i).now.length c, .int .i64 0]) ∧ Rw bad (.slice A (d.fl i).now.length c) (d.fl i).now w' ∧ Below W.heap.size W w' := by
  have hl : (d.fl i).now.length ≤ 140737488355328 := by have := (flok hg i).now; omega
  refine (disk_Read.calls hA hg.room.pos ho i hl).mono ?_
  rintro e w' ⟨v, h1, h2, h3⟩
  obtain ⟨A, c, rfl⟩ := Kd.R_slice h2
  exact ⟨A, c, h1, Rw.of_R h2 (fun k hk hb' => by have := hb k hb'; omega), h3⟩
theorem rw_taken {bad : Nat → Prop} {A : Option Addr} {c : Nat} {xs ts : List Int} {n : Int} {w : World} (h : Rw bad (.slice A xs.length c) xs w) (h0 : 0 ≤ n) (h1 : n ≤ xs.length) (ht : ts = xs.take n.toNat) :
    (∀ W, (Instr.slice 22 (.slice A xs.length c) none (some (.int .i64 n)) none).run Try.prog W = .ok (.slice A ts.length c) W) ∧ ∀ W, Below w.heap.size w W → (convert 22 9 (.slice A ts.length c)).run Try.prog W = .ok (.string (strOfNums ts)) W := by
  have hl : ts.length = n.toNat := by rw [ht, List.length_take]; omega
  refine ⟨fun W => ?_, fun W hW => ?_⟩
  · have := take23 (A := A) (c := c) (xs := xs) h0 h1 h.cap.2 W
    rw [← ht] at this
    exact this
  · have := ((h.take (m := n.toNat) (by omega)).below hW).str
    rw [← ht, ← hl] at this
    exact this
theorem toList_inj {a b : ByteArray} (h : a.toList = b.toList) : a = b := by
  rw [Lib.toList_data, Lib.toList_data] at h
  exact ByteArray.ext (Array.toList_inj.1 h)
end Go.Proofs.Ytdlfabbhdelinaa.Q
