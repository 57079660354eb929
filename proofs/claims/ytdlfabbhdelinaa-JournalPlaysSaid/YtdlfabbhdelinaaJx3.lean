/- The document's disk, walked: Start. No condition but those typed. -/
import Derived.Test.YtdlfabbhdelinaaShort
import Derived.Test.YtdlfabbhdelinaaWalk0
import Derived.Test.YtdlfabbhdelinaaDisk09
import Derived.Test.YtdlfabbhdelinaaJx2
import Derived.Outline
namespace Go.Proofs.Ytdlfabbhdelinaa.Q
open Go.RowKit Go.Proofs.YtdlfabbhdelinaaW.PrintWords Go.Proofs.YtdlfabbhdelinaaW.PrintLast Go.Proofs.YtdlfabbhdelinaaW.PrintMore
open Go.Proofs.Ytdlfabbhdelinaa.Dk Go.Proofs.Ytdlfabbhdelinaa.Sh
attribute [local go_sem] max2_int min2_int max_two min_two max_three min_three max_four min_four   -- for this text's walks alone
set_option linter.unusedVariables false
set_option linter.unusedSimpArgs false
set_option maxRecDepth 100000
theorem mid22n {A : Option Addr} {c : Nat} {xs : List Int} {w : World} (hC : (Kd.int .u8).C w A xs.length xs) (hc : xs.length ≤ c) {a b : Int} (h0 : 0 ≤ a) (h1 : a ≤ b) (hm : b ≤ xs.length) :
    ∃ A' : Option Addr, (∀ W : World, (Instr.slice 22 (.slice A xs.length c) (some (.int .i64 a)) (some (.int .i64 b)) none).run Try.prog W = .ok (.slice A' ((xs.take b.toNat).drop a.toNat).length (c - a.toNat)) W) ∧
      (Kd.int .u8).C w A' ((xs.take b.toNat).drop a.toNat).length ((xs.take b.toNat).drop a.toNat) := by
  obtain ⟨i0, hi, _, hsz, _⟩ := info_parts info5
  obtain ⟨A', h1', h2', h3'⟩ := print_mid_of (P := Try.prog) (Value.int .u8) 0 22 5 .i64 .i64 Try.underlying22 hi hsz A c xs a b h0 h1 hm hc
  exact ⟨A', h1', Kd.C_of_reads (h1 := fun _ => rfl) (h2' _ (Kd.reads_of_C hC))⟩
/-- What the document's Start has done behind n files. -/
def stN (k0 k1 : Int) (c0 c1 : Bool) (d : D) : Nat → D
  | 0 => st0 d
  | 1 => st1 k0 c0 d
  | _ => strt k0 k1 c0 c1 d
theorem st_ab {bl nl hi : Nat} {k K : Int} (hle : bl ≤ nl) (hn : nl ≤ 1048576) (hK : K = mn (mx k 0) ((nl : Int) - (bl : Int))) (hhi : hi = bl + K.toNat) :
    ((bl : Int) ≤ (hi : Int) ∧ (hi : Int) ≤ (nl : Int)) ∧ wrap64 ((nl : Int) - (bl : Int)) = (nl : Int) - (bl : Int) ∧ mn (mx k 0) ((nl : Int) - (bl : Int)) = K ∧ mx K 0 = K ∧ mn (bl : Int) (nl : Int) = (bl : Int) ∧ wrap64 ((bl : Int) + K) = (hi : Int) := by
  have h0 : 0 ≤ K ∧ K ≤ (nl : Int) - (bl : Int) := by rw [hK]; unfold mn mx; split <;> split <;> omega
  refine ⟨by omega, ?_, hK.symm, ?_, ?_, ?_⟩
  · unfold wrap64; omega
  · unfold mx; split <;> omega
  · unfold mn; split <;> omega
  · unfold wrap64; omega
theorem st_c {bl nl m1 : Nat} (hn : nl ≤ 1048576) (hb : bl ≤ 1048576) (hm : m1 = min bl nl) :
    ((m1 : Int) ≤ (m1 : Int) ∧ (m1 : Int) ≤ (nl : Int)) ∧ mx 0 0 = 0 ∧ mn (bl : Int) (nl : Int) = (m1 : Int) ∧ wrap64 ((m1 : Int) + 0) = (m1 : Int) ∧ wrap64 (m1 : Int) = (m1 : Int) := by
  refine ⟨by omega, by decide, ?_, ?_, ?_⟩
  · unfold mn; split <;> omega
  · unfold wrap64; omega
  · unfold wrap64; omega
theorem st_lost {bs us : List Int} {f : Fl} {k K : Int} {hi : Nat} (hle : bs.length ≤ f.now.length) (hK : K = mn (mx k 0) ((f.now.length : Int) - (bs.length : Int))) (hhi : hi = bs.length + K.toNat) (hus : us = (f.now.take hi).drop bs.length) : lostT k bs f = bs ++ us := by
  unfold lostT
  rw [hus, List.drop_take, hhi, Nat.add_sub_cancel_left, List.length_drop, hK, show ((f.now.length - bs.length : Nat) : Int) = (f.now.length : Int) - (bs.length : Int) from by omega]
theorem st_ul {us now : List Int} {a b : Nat} (h : us = (now.take b).drop a) (hn : now.length ≤ 1048576) : us.length ≤ 1048576 := by
  rw [h, List.length_drop, List.length_take]
  omega
section
attribute [-go_sem] max2_int min2_int
attribute [local go_sem] max_mx min_mn
set_option maxHeartbeats 8000000 in
theorem rStart.calls {g : Nat} {ok : Nat → Prop} {d : D} {w : World} (h : Dr.At g ok d w) (hg : Good d) (k0 k1 : Int) (c0 c1 : Bool) :
    Calls Try.prog 33 #[.pointer (some ⟨g, 0, none⟩), .agg #[.int .i64 k0, .int .i64 k1, .bool c0, .bool c1]] w fun e w' => e = .returned (.int .i64 (startE d)) ∧ Dr.At g ok (startD k0 k1 c0 c1 d) w' ∧ Tn g w w' := by
  have H := Aside0.mk h
  have HG := Aside0.mk hg
  obtain ⟨v0, v1, v2, v3, HA, V0, V1, V2, V3⟩ := h.ex
  have x8 : w.cell? ⟨g, 8, none⟩ = some (.bool d.off) := HA.cell 8
  have x9 : w.cell? ⟨g, 9, none⟩ = some (.int .i64 d.fuse) := HA.cell 9
  have z8 : w.frozen? ⟨g, 8, none⟩ = false := HA.frozen 8
  have z9 : w.frozen? ⟨g, 9, none⟩ = false := HA.frozen 9
  have HA_ := Aside0.mk HA
  have HV := Aside0.mk (And.intro V0 (And.intro V1 (And.intro V2 V3)))
  have hgl : g < w.heap.size := HA.lt
  clear h hg HA V0 V1 V2 V3
  cases ho : d.off
  case false =>
    rw [show startE d = 13 from if_neg (by rw [ho]; decide), show startD k0 k1 c0 c1 d = d from if_neg (by rw [ho]; decide)]
    rw [ho] at x8
    go_enter Try.func33, Try.ntmps33
    go_wp2_with fail
    go_ret
    exact ⟨rfl, H.out.below (below_alloc (Below.refl _ _) _), (Tn.refl g _).alloc _⟩
  rw [show startE d = 0 from if_pos ho, show startD k0 k1 c0 c1 d = strt k0 k1 c0 c1 d from if_pos ho]
  rw [ho] at x8
  clear ho
  go_enter Try.func33, Try.ntmps33
  go_wp2_with fail
  go_loopw [5] (fun j wr => ∃ n : Nat, n ≤ 2 ∧ j = .int .i64 n ∧ Aside0 (Dr.At g ok (stN k0 k1 c0 c1 d n) wr) ∧ Aside0 (Tn g w wr) ∧ Aside0 (Blk.At w.heap.size #[.int .i64 k0, .int .i64 k1, .bool c0, .bool c1] 76 wr)) (fun j _ => 2 - (intOf j).toNat)
  case atStart =>
    have T0 : Tn g w (((w.setCell ⟨g, 8, none⟩ (.bool false)).setCell ⟨g, 9, none⟩ (.int .i64 (-1))).alloc (.cells #[.int .i64 k0, .int .i64 k1, .bool c0, .bool c1] 76)) := (((Tn.refl g w).set_own 8 _).set_own 9 _).alloc _
    have hA2 := ((HA_.out.set 8 (.bool false)).set 9 (.int .i64 (-1))).alloc (.cells #[.int .i64 k0, .int .i64 k1, .bool c0, .bool c1] 76)
    obtain ⟨V0, V1, V2, V3⟩ := HV.out
    have hn := H.out.nok
    have hB := Blk.At.new ((w.setCell ⟨g, 8, none⟩ (.bool false)).setCell ⟨g, 9, none⟩ (.int .i64 (-1))) #[.int .i64 k0, .int .i64 k1, .bool c0, .bool c1] 76
    have hsz : ((w.setCell ⟨g, 8, none⟩ (.bool false)).setCell ⟨g, 9, none⟩ (.int .i64 (-1))).heap.size = w.heap.size := by simp [World.setCell]
    rw [hsz] at hB
    exact ⟨0, by decide, rfl, ⟨H.out.turn (d' := st0 d) T0 hA2 (V_tn V0 hn T0) (V_tn V1 hn T0) (V_tn V2 hn T0) (V_tn V3 hn T0)⟩, ⟨T0⟩, ⟨hB⟩⟩
  case round =>
    clear x8 x9 z8 z9
    obtain ⟨n, hn2, rfl, HD, HT, HL⟩ := hrel
    rcases n with _ | _ | _ | n
    · obtain ⟨dn, hdn⟩ : ∃ dn, dn = stN k0 k1 c0 c1 d 0 := ⟨_, rfl⟩
      rw [← hdn] at HD
      obtain ⟨f, hf⟩ : ∃ f, f = dn.a := ⟨_, rfl⟩
      have hfd : f = d.a := by rw [hf, hdn]; rfl
      have HF := Aside0.mk (show FlOk f by rw [hfd]; exact flok HG.out false)
      have hput : stN k0 k1 c0 c1 d 1 = dn.put false (lost k0 c0 f) := by rw [hfd, hdn]; rfl
      have HPUT := Aside0.mk hput
      obtain ⟨v0, v1, v2, v3, HA, V0, V1, V2, V3⟩ := HD.out.ex
      rw [← hf] at V0 V1
      obtain ⟨A0, c0_, rfl⟩ := Kd.V_slice V0
      obtain ⟨A1, c1_, rfl⟩ := Kd.V_slice V1
      have x0 : wr.cell? ⟨g, 0, none⟩ = some (.slice A0 f.now.length c0_) := HA.cell 0
      have x1 : wr.cell? ⟨g, 1, none⟩ = some (.slice A1 f.sure.length c1_) := HA.cell 1
      have x2 : wr.cell? ⟨g, 2, none⟩ = some (.int .i64 f.cut) := by rw [hf]; exact HA.cell 2
      have l0 : wr.cell? ⟨w.heap.size, 0, none⟩ = some (.int .i64 k0) := HL.out.cell 0
      have l1 : wr.cell? ⟨w.heap.size, 2, none⟩ = some (.bool c0) := HL.out.cell 2
      have HA1 := Aside0.mk HA
      have HVV := Aside0.mk (And.intro V0 (And.intro V1 (And.intro V2 V3)))
      have HNOW := Aside0.mk V0
      have HSURE := Aside0.mk V1
      have HQb := Aside0.mk (Blk.At.new wr #[(.slice A0 f.now.length c0_), (.slice A1 f.sure.length c1_), .int .i64 f.cut] 62)
      have hn02 : decide ((0 : Int) < 2) = true := by decide
      have en : wrap64 ((0 : Int) + 1) = (1 : Int) := by unfold wrap64; decide
      clear HA V0 V1 V2 V3 hfd hput hdn
      have HFD := Aside0.mk hf
      clear hf
      by_cases k1 : f.cut = -1
      case pos =>
        have b1 : decide (0 ≤ f.cut) = false := decide_eq_false (by omega)
        have b2 : decide (f.cut < 0) = true := decide_eq_true (by omega)
        have K1 := Aside0.mk k1
        obtain ⟨bs, hbs⟩ : ∃ bs, bs = f.sure := ⟨_, rfl⟩
        have HBE := Aside0.mk hbs
        have HBS := Aside0.mk (show Vb ok wr (.slice A1 bs.length c1_) bs by rw [hbs]; exact HSURE.out)
        have hbl : bs.length ≤ 1048576 := by rw [hbs]; exact HF.out.sure
        have hble : bs.length ≤ f.now.length := by rw [hbs]; exact (HF.out.none k1).length_le
        obtain ⟨Ab, hAb⟩ : ∃ Ab, Ab = A1 := ⟨_, rfl⟩
        obtain ⟨cb, hcb⟩ : ∃ cb, cb = c1_ := ⟨_, rfl⟩
        subst hAb hcb
        rw [← hbs] at x1 HQb HA1
        clear k1 hbs
        have HBL := Aside0.mk hbl
        clear hbl
        have HBLE := Aside0.mk hble
        clear hble
        obtain ⟨K, hK⟩ : ∃ K : Int, K = mn (mx k0 0) ((f.now.length : Int) - (bs.length : Int)) := ⟨_, rfl⟩
        obtain ⟨hi, hhi⟩ : ∃ hi : Nat, hi = bs.length + K.toNat := ⟨_, rfl⟩
        have HS := Aside0.mk (st_ab HBLE.out HF.out.now hK hhi)
        obtain ⟨A9, hcut, hC9⟩ := mid22n (Kd.V_reads' HNOW.out).2.2 (Kd.V_reads' HNOW.out).2.1 (a := (bs.length : Int)) (b := (hi : Int)) (Int.natCast_nonneg _) HS.out.1.1 HS.out.1.2
        rw [Int.toNat_natCast, Int.toNat_natCast] at hcut hC9
        obtain ⟨us, hus⟩ : ∃ us, us = (f.now.take hi).drop bs.length := ⟨_, rfl⟩
        rw [← hus] at hcut hC9
        have HUL := Aside0.mk (st_ul hus HF.out.now)
        have HUS := Aside0.mk (st_lost HBLE.out hK hhi hus)
        have HC9 := Aside0.mk hC9
        obtain ⟨e1, e2, e3, e4, e5⟩ := HS.out.2
        clear hK hhi hus hC9
        go_wp2_with fail
        obtain ⟨W3, hW3⟩ : ∃ W3, W3 = wr.alloc (.cells #[(.slice A0 f.now.length c0_), (.slice Ab bs.length cb), .int .i64 f.cut] 62) := ⟨_, rfl⟩
        rw [← hW3] at HQb ⊢
        have HBW := Aside0.mk (show Below wr.heap.size wr W3 by rw [hW3]; exact below_alloc (Below.refl _ _) _)
        have q0 : W3.cell? ⟨wr.heap.size, 0, none⟩ = some (.slice A0 f.now.length c0_) := HQb.out.cell 0
        have lk0 : W3.cell? ⟨w.heap.size, 0, none⟩ = some (.int .i64 k0) := pw_cell_below HBW.out l0
        have Q0 := Aside0.mk q0
        have HG3 := Aside0.mk (HA1.out.below HBW.out HD.out.lt)
        clear hW3 x0 x1 x2 l0 l1
        refine start_ (n := 13) (S := fun w' => w'.cell? ⟨w.heap.size, 0, none⟩ = some (.int .i64 k0) ∧ w'.cell? ⟨wr.heap.size, 0, none⟩ = some (.slice A0 f.now.length c0_)) (ds := []) (bl 13 0x0) (by kernel_rfl) rfl (by kernel_rfl) ⟨lk0, q0⟩ (fun hHeld => ?_)
        refine pu 0 (some 55) (bl 13 0x1) ?_
        refine pu 1 (some 56) (bl 13 0x3) ?_
        refine pu 2 (some 57) (bl 13 0x7) ?_
        refine pu 5 (some 60) (bl 13 0x27) ?_
        refine pu 8 (some 63) (bl 13 0x127) ?_
        refine pu 9 (some 64) (bl 13 0x327) ?_
        refine tk 3 (some 58) (bl 13 0x32f) hHeld ?_
        refine pu 4 (some 59) (bl 13 0x33f) ?_
        refine tk 6 (some 61) (bl 13 0x37f) hHeld ?_
        refine pu 7 (some 62) (bl 13 0x3ff) ?_
        refine pu 10 (some 65) (bl 13 0x7ff) ?_
        refine pu 11 (some 66) (bl 13 0xfff) ?_
        refine pu 12 (some 8) (bl 13 0x1fff) ?_
        refine done_ (by kernel_rfl) ?_
        go_wp2_with fail
        refine start_ (n := 22) (S := fun w' => w'.cell? ⟨wr.heap.size, 0, none⟩ = some (.slice A0 f.now.length c0_)) (ds := []) (bl 22 0x0) (by kernel_rfl) rfl (by kernel_rfl) (q0) (fun hHeld => ?_)
        refine pu 0 (some 67) (bl 22 0x1) ?_
        refine pu 2 (some 69) (bl 22 0x5) ?_
        refine pu 4 (some 71) (bl 22 0x15) ?_
        refine pu 5 (some 72) (bl 22 0x35) ?_
        refine pu 6 (some 73) (bl 22 0x75) ?_
        refine pu 10 (some 77) (bl 22 0x475) ?_
        refine pu 11 (some 78) (bl 22 0xc75) ?_
        refine pu 12 (some 79) (bl 22 0x1c75) ?_
        refine pu 16 (some 83) (bl 22 0x11c75) ?_
        refine pu 17 (some 84) (bl 22 0x31c75) ?_
        refine tk 3 (some 70) (bl 22 0x31c7d) hHeld ?_
        refine tk 7 (some 74) (bl 22 0x31cfd) hHeld ?_
        refine pu 8 (some 75) (bl 22 0x31dfd) ?_
        refine pu 9 (some 76) (bl 22 0x31ffd) ?_
        refine tk 13 (some 80) (bl 22 0x33ffd) hHeld ?_
        refine pu 14 (some 81) (bl 22 0x37ffd) ?_
        refine pu 15 (some 82) (bl 22 0x3fffd) ?_
        refine pu 18 (some 85) (bl 22 0x7fffd) ?_
        refine pu 19 (some 86) (bl 22 0xffffd) ?_
        refine one_ (i := 1) (N := some 68) (bl 22 0xfffff) rfl rfl (by kernel_rfl) (by decide) (fun K hK => ?_)
        refine Kd.R_append_rows_step (Kd.int .u8) (w0 := W3) W3.heap.size (by rfl) _ _ 22 5 (.int .u8 0) 1 rfl Try.underlying22 info5 rfl (by decide) (by decide) (.slice none 0 0) [] bs Ab bs.length cb (fun _ => True) (fun _ => False) rfl rfl (Kd.R_nil _ _ _ _ _) (Kd.V_reads' (Kd.V_below (Kd.V_below HBS.out HBW.out) ((below_drew (Below.refl W3.heap.size W3)).trans (below_drew (Below.refl _ _))))).2.2 (fun _ _ h => h) (fun _ h => h.elim) (fun _ _ => trivial) ((below_drew (Below.refl W3.heap.size W3)).trans (below_drew (Below.refl _ _))) (Nat.le_refl _) (by have := HBL.out; simp; omega) ?_
        intro v4 w4 ho4 hb4 hg4 hat4
        rw [List.nil_append] at ho4
        obtain ⟨A4, c4, rfl⟩ := Kd.R_slice ho4
        have HO4 := Aside0.mk ho4
        have HB4 := Aside0.mk hb4
        clear ho4 hb4 hg4 hat4
        refine hK.out _ _ (pw_cell_below HB4.out Q0.out) (fun hHeld => ?_)
        clear hK K
        refine norm_ (a' := ?_) ?_ ?_
        rotate_left
        · show Act.put _ (some 68) _ = _
          simp only [Act.put, List.setIfInBounds_toArray, List.set_cons_zero, List.set_cons_succ, i64_w, i32_w]
          rfl
        refine one_ (i := 20) (N := some 87) (bl 22 0x1fffff) rfl rfl (by kernel_rfl) (by decide) (fun K hK => ?_)
        refine Kd.R_append_rows_step (Kd.int .u8) (w0 := W3) W3.heap.size (by rfl) _ _ 22 5 (.int .u8 0) 1 rfl Try.underlying22 info5 rfl (by decide) (by decide) (.slice A4 bs.length c4) bs us A9 us.length (c0_ - bs.length) (fun _ => True) (fun _ => False) rfl rfl HO4.out (Kd.C_below (Kd.C_below HC9.out HBW.out) HB4.out) (fun _ _ h => h) (fun _ h => h.elim) (fun _ _ => trivial) HB4.out HB4.out.size (by have := HBL.out; have := HUL.out; omega) ?_
        intro v5 w5 ho5 hb5 hg5 hat5
        obtain ⟨zs, hz⟩ : ∃ zs, zs = bs ++ us := ⟨_, rfl⟩
        rw [← hz] at ho5
        obtain ⟨A5, c5, rfl⟩ := Kd.R_slice ho5
        have HO5 := Aside0.mk ho5
        have HB5 := Aside0.mk hb5
        have HZ := Aside0.mk hz
        have HG5 := Aside0.mk (HG3.out.below hb5 HG3.out.lt)
        clear ho5 hb5 hg5 hat5 hz
        have f0 : w5.frozen? ⟨g, 0, none⟩ = false := HG5.out.frozen 0
        have f1 : w5.frozen? ⟨g, 1, none⟩ = false := HG5.out.frozen 1
        have f2 : w5.frozen? ⟨g, 2, none⟩ = false := HG5.out.frozen 2
        have p0 : w5.cell? ⟨g, 0, none⟩ = some (.slice A0 f.now.length c0_) := HG5.out.cell 0
        have p1 : w5.cell? ⟨g, 1, none⟩ = some (.slice Ab bs.length cb) := HG5.out.cell 1
        have p2 : w5.cell? ⟨g, 2, none⟩ = some (.int .i64 dn.a.cut) := HG5.out.cell 2
        refine hK.out _ _ (pw_cell_below HB5.out Q0.out) (fun hHeld => ?_)
        clear hK K
        refine norm_ (a' := ?_) ?_ ?_
        rotate_left
        · show Act.put _ (some 87) _ = _
          simp only [Act.put, List.setIfInBounds_toArray, List.set_cons_zero, List.set_cons_succ, i64_w, i32_w]
          rfl
        refine pu 21 (some 9) (bl 22 0x3fffff) ?_
        refine done_ (by kernel_rfl) ?_
        go_wp2_with fail
        go_roundw
        case rel =>
          have T := ((((Tn.of_below (g := g) HBW.out).trans (Tn.of_below HB5.out)).set_own 0 (.slice A5 zs.length c5)).set_own 1 (.slice A5 zs.length c5)).set_own 2 (.int .i64 (-1))
          have TW := ((((Tn.refl g w5).set_own 0 (.slice A5 zs.length c5)).set_own 1 (.slice A5 zs.length c5)).set_own 2 (.int .i64 (-1)))
          have hA5 := ((HG5.out.set 0 (.slice A5 zs.length c5)).set 1 (.slice A5 zs.length c5)).set 2 (.int .i64 (-1))
          obtain ⟨V0, V1, V2, V3⟩ := HVV.out
          have hn := HD.out.nok
          have V5 := V_tn (V_own (ok := ok) HO5.out (fun k hk => HD.out.fresh k (Nat.le_trans HBW.out.size hk))) hn TW
          refine ⟨1, by decide, rfl, ⟨?_⟩, ⟨HT.out.trans T⟩, ⟨blk_tn HL.out T (fun e => by have := H.out.lt; omega)⟩⟩
          rw [HPUT.out, show lost k0 c0 f = ⟨zs, zs, -1⟩ from (lost_none K1.out).trans (by rw [show lostT k0 f.sure f = zs from by rw [HZ.out, ← HUS.out, HBE.out]])]
          exact HD.out.turn (d' := dn.put false ⟨zs, zs, -1⟩) T hA5 V5 V5 (V_tn V2 hn T) (V_tn V3 hn T)
        case measure => simp [intOf]; done
      obtain ⟨hc0, hcl, hcp⟩ := HF.out.some k1
      have b1 : decide (0 ≤ f.cut) = true := decide_eq_true (by omega)
      have b2 : decide (f.cut < 0) = false := decide_eq_false (by omega)
      have K1 := Aside0.mk k1
      by_cases hc : c0 = true
      case pos =>
        have HCE := Aside0.mk hc
        rw [hc] at l1
        have hs := fun W => take23 (A := A1) (c := c1_) (xs := f.sure) hc0 (Int.le_of_lt hcl) (Kd.V_at HSURE.out).2.1 W
        have hbs0 := V_take HSURE.out (m := f.cut.toNat) (by omega)
        obtain ⟨bs, hbs⟩ : ∃ bs, bs = f.sure.take f.cut.toNat := ⟨_, rfl⟩
        rw [← hbs] at hs hbs0
        have HBE := Aside0.mk hbs
        have HBS := Aside0.mk hbs0
        have hbl : bs.length ≤ 1048576 := by rw [hbs, List.length_take]; have := HF.out.sure; omega
        have hble : bs.length ≤ f.now.length := by rw [hbs]; exact hcp.length_le
        obtain ⟨Ab, hAb⟩ : ∃ Ab, Ab = A1 := ⟨_, rfl⟩
        obtain ⟨cb, hcb⟩ : ∃ cb, cb = c1_ := ⟨_, rfl⟩
        subst hAb hcb
        clear k1 hbs hbs0 hc hc0 hcl hcp
        have HBL := Aside0.mk hbl
        clear hbl
        have HBLE := Aside0.mk hble
        clear hble
        obtain ⟨K, hK⟩ : ∃ K : Int, K = mn (mx k0 0) ((f.now.length : Int) - (bs.length : Int)) := ⟨_, rfl⟩
        obtain ⟨hi, hhi⟩ : ∃ hi : Nat, hi = bs.length + K.toNat := ⟨_, rfl⟩
        have HS := Aside0.mk (st_ab HBLE.out HF.out.now hK hhi)
        obtain ⟨A9, hcut, hC9⟩ := mid22n (Kd.V_reads' HNOW.out).2.2 (Kd.V_reads' HNOW.out).2.1 (a := (bs.length : Int)) (b := (hi : Int)) (Int.natCast_nonneg _) HS.out.1.1 HS.out.1.2
        rw [Int.toNat_natCast, Int.toNat_natCast] at hcut hC9
        obtain ⟨us, hus⟩ : ∃ us, us = (f.now.take hi).drop bs.length := ⟨_, rfl⟩
        rw [← hus] at hcut hC9
        have HUL := Aside0.mk (st_ul hus HF.out.now)
        have HUS := Aside0.mk (st_lost HBLE.out hK hhi hus)
        have HC9 := Aside0.mk hC9
        obtain ⟨e1, e2, e3, e4, e5⟩ := HS.out.2
        clear hK hhi hus hC9
        have l1a : (wr.alloc (.cells #[(.slice A0 f.now.length c0_), (.slice Ab f.sure.length cb), .int .i64 f.cut] 62)).cell? ⟨w.heap.size, 2, none⟩ = some (.bool true) := pw_cell_below (below_alloc (Below.refl _ wr) _) l1
        go_wp2_with fail
        obtain ⟨W3, hW3⟩ : ∃ W3, W3 = wr.alloc (.cells #[(.slice A0 f.now.length c0_), (.slice Ab f.sure.length cb), .int .i64 f.cut] 62) := ⟨_, rfl⟩
        rw [← hW3] at HQb ⊢
        have HBW := Aside0.mk (show Below wr.heap.size wr W3 by rw [hW3]; exact below_alloc (Below.refl _ _) _)
        have q0 : W3.cell? ⟨wr.heap.size, 0, none⟩ = some (.slice A0 f.now.length c0_) := HQb.out.cell 0
        have lk0 : W3.cell? ⟨w.heap.size, 0, none⟩ = some (.int .i64 k0) := pw_cell_below HBW.out l0
        have Q0 := Aside0.mk q0
        have HG3 := Aside0.mk (HA1.out.below HBW.out HD.out.lt)
        clear hW3 x0 x1 x2 l0 l1 l1a
        refine start_ (n := 13) (S := fun w' => w'.cell? ⟨w.heap.size, 0, none⟩ = some (.int .i64 k0) ∧ w'.cell? ⟨wr.heap.size, 0, none⟩ = some (.slice A0 f.now.length c0_)) (ds := []) (bl 13 0x0) (by kernel_rfl) rfl (by kernel_rfl) ⟨lk0, q0⟩ (fun hHeld => ?_)
        refine pu 0 (some 55) (bl 13 0x1) ?_
        refine pu 1 (some 56) (bl 13 0x3) ?_
        refine pu 2 (some 57) (bl 13 0x7) ?_
        refine pu 5 (some 60) (bl 13 0x27) ?_
        refine pu 8 (some 63) (bl 13 0x127) ?_
        refine pu 9 (some 64) (bl 13 0x327) ?_
        refine tk 3 (some 58) (bl 13 0x32f) hHeld ?_
        refine pu 4 (some 59) (bl 13 0x33f) ?_
        refine tk 6 (some 61) (bl 13 0x37f) hHeld ?_
        refine pu 7 (some 62) (bl 13 0x3ff) ?_
        refine pu 10 (some 65) (bl 13 0x7ff) ?_
        refine pu 11 (some 66) (bl 13 0xfff) ?_
        refine pu 12 (some 8) (bl 13 0x1fff) ?_
        refine done_ (by kernel_rfl) ?_
        go_wp2_with fail
        refine start_ (n := 22) (S := fun w' => w'.cell? ⟨wr.heap.size, 0, none⟩ = some (.slice A0 f.now.length c0_)) (ds := []) (bl 22 0x0) (by kernel_rfl) rfl (by kernel_rfl) (q0) (fun hHeld => ?_)
        refine pu 0 (some 67) (bl 22 0x1) ?_
        refine pu 2 (some 69) (bl 22 0x5) ?_
        refine pu 4 (some 71) (bl 22 0x15) ?_
        refine pu 5 (some 72) (bl 22 0x35) ?_
        refine pu 6 (some 73) (bl 22 0x75) ?_
        refine pu 10 (some 77) (bl 22 0x475) ?_
        refine pu 11 (some 78) (bl 22 0xc75) ?_
        refine pu 12 (some 79) (bl 22 0x1c75) ?_
        refine pu 16 (some 83) (bl 22 0x11c75) ?_
        refine pu 17 (some 84) (bl 22 0x31c75) ?_
        refine tk 3 (some 70) (bl 22 0x31c7d) hHeld ?_
        refine tk 7 (some 74) (bl 22 0x31cfd) hHeld ?_
        refine pu 8 (some 75) (bl 22 0x31dfd) ?_
        refine pu 9 (some 76) (bl 22 0x31ffd) ?_
        refine tk 13 (some 80) (bl 22 0x33ffd) hHeld ?_
        refine pu 14 (some 81) (bl 22 0x37ffd) ?_
        refine pu 15 (some 82) (bl 22 0x3fffd) ?_
        refine pu 18 (some 85) (bl 22 0x7fffd) ?_
        refine pu 19 (some 86) (bl 22 0xffffd) ?_
        refine one_ (i := 1) (N := some 68) (bl 22 0xfffff) rfl rfl (by kernel_rfl) (by decide) (fun K hK => ?_)
        refine Kd.R_append_rows_step (Kd.int .u8) (w0 := W3) W3.heap.size (by rfl) _ _ 22 5 (.int .u8 0) 1 rfl Try.underlying22 info5 rfl (by decide) (by decide) (.slice none 0 0) [] bs Ab bs.length cb (fun _ => True) (fun _ => False) rfl rfl (Kd.R_nil _ _ _ _ _) (Kd.V_reads' (Kd.V_below (Kd.V_below HBS.out HBW.out) ((below_drew (Below.refl W3.heap.size W3)).trans (below_drew (Below.refl _ _))))).2.2 (fun _ _ h => h) (fun _ h => h.elim) (fun _ _ => trivial) ((below_drew (Below.refl W3.heap.size W3)).trans (below_drew (Below.refl _ _))) (Nat.le_refl _) (by have := HBL.out; simp; omega) ?_
        intro v4 w4 ho4 hb4 hg4 hat4
        rw [List.nil_append] at ho4
        obtain ⟨A4, c4, rfl⟩ := Kd.R_slice ho4
        have HO4 := Aside0.mk ho4
        have HB4 := Aside0.mk hb4
        clear ho4 hb4 hg4 hat4
        refine hK.out _ _ (pw_cell_below HB4.out Q0.out) (fun hHeld => ?_)
        clear hK K
        refine norm_ (a' := ?_) ?_ ?_
        rotate_left
        · show Act.put _ (some 68) _ = _
          simp only [Act.put, List.setIfInBounds_toArray, List.set_cons_zero, List.set_cons_succ, i64_w, i32_w]
          rfl
        refine one_ (i := 20) (N := some 87) (bl 22 0x1fffff) rfl rfl (by kernel_rfl) (by decide) (fun K hK => ?_)
        refine Kd.R_append_rows_step (Kd.int .u8) (w0 := W3) W3.heap.size (by rfl) _ _ 22 5 (.int .u8 0) 1 rfl Try.underlying22 info5 rfl (by decide) (by decide) (.slice A4 bs.length c4) bs us A9 us.length (c0_ - bs.length) (fun _ => True) (fun _ => False) rfl rfl HO4.out (Kd.C_below (Kd.C_below HC9.out HBW.out) HB4.out) (fun _ _ h => h) (fun _ h => h.elim) (fun _ _ => trivial) HB4.out HB4.out.size (by have := HBL.out; have := HUL.out; omega) ?_
        intro v5 w5 ho5 hb5 hg5 hat5
        obtain ⟨zs, hz⟩ : ∃ zs, zs = bs ++ us := ⟨_, rfl⟩
        rw [← hz] at ho5
        obtain ⟨A5, c5, rfl⟩ := Kd.R_slice ho5
        have HO5 := Aside0.mk ho5
        have HB5 := Aside0.mk hb5
        have HZ := Aside0.mk hz
        have HG5 := Aside0.mk (HG3.out.below hb5 HG3.out.lt)
        clear ho5 hb5 hg5 hat5 hz
        have f0 : w5.frozen? ⟨g, 0, none⟩ = false := HG5.out.frozen 0
        have f1 : w5.frozen? ⟨g, 1, none⟩ = false := HG5.out.frozen 1
        have f2 : w5.frozen? ⟨g, 2, none⟩ = false := HG5.out.frozen 2
        have p0 : w5.cell? ⟨g, 0, none⟩ = some (.slice A0 f.now.length c0_) := HG5.out.cell 0
        have p1 : w5.cell? ⟨g, 1, none⟩ = some (.slice Ab f.sure.length cb) := HG5.out.cell 1
        have p2 : w5.cell? ⟨g, 2, none⟩ = some (.int .i64 dn.a.cut) := HG5.out.cell 2
        refine hK.out _ _ (pw_cell_below HB5.out Q0.out) (fun hHeld => ?_)
        clear hK K
        refine norm_ (a' := ?_) ?_ ?_
        rotate_left
        · show Act.put _ (some 87) _ = _
          simp only [Act.put, List.setIfInBounds_toArray, List.set_cons_zero, List.set_cons_succ, i64_w, i32_w]
          rfl
        refine pu 21 (some 9) (bl 22 0x3fffff) ?_
        refine done_ (by kernel_rfl) ?_
        go_wp2_with fail
        go_roundw
        case rel =>
          have T := ((((Tn.of_below (g := g) HBW.out).trans (Tn.of_below HB5.out)).set_own 0 (.slice A5 zs.length c5)).set_own 1 (.slice A5 zs.length c5)).set_own 2 (.int .i64 (-1))
          have TW := ((((Tn.refl g w5).set_own 0 (.slice A5 zs.length c5)).set_own 1 (.slice A5 zs.length c5)).set_own 2 (.int .i64 (-1)))
          have hA5 := ((HG5.out.set 0 (.slice A5 zs.length c5)).set 1 (.slice A5 zs.length c5)).set 2 (.int .i64 (-1))
          obtain ⟨V0, V1, V2, V3⟩ := HVV.out
          have hn := HD.out.nok
          have V5 := V_tn (V_own (ok := ok) HO5.out (fun k hk => HD.out.fresh k (Nat.le_trans HBW.out.size hk))) hn TW
          refine ⟨1, by decide, rfl, ⟨?_⟩, ⟨HT.out.trans T⟩, ⟨blk_tn HL.out T (fun e => by have := H.out.lt; omega)⟩⟩
          rw [HPUT.out, show lost k0 c0 f = ⟨zs, zs, -1⟩ from by rw [HCE.out]; exact (lost_cut K1.out).trans (by rw [show lostT k0 (f.sure.take f.cut.toNat) f = zs from by rw [HZ.out, ← HUS.out, HBE.out]])]
          exact HD.out.turn (d' := dn.put false ⟨zs, zs, -1⟩) T hA5 V5 V5 (V_tn V2 hn T) (V_tn V3 hn T)
        case measure => simp [intOf]; done
      have hc := Bool.eq_false_iff.2 hc
      have HCE := Aside0.mk hc
      rw [hc] at l1
      obtain ⟨bs, hbs⟩ : ∃ bs, bs = f.sure := ⟨_, rfl⟩
      have HBE := Aside0.mk hbs
      have HBS := Aside0.mk (show Vb ok wr (.slice A1 bs.length c1_) bs by rw [hbs]; exact HSURE.out)
      have hbl : bs.length ≤ 1048576 := by rw [hbs]; exact HF.out.sure
      obtain ⟨Ab, hAb⟩ : ∃ Ab, Ab = A1 := ⟨_, rfl⟩
      obtain ⟨cb, hcb⟩ : ∃ cb, cb = c1_ := ⟨_, rfl⟩
      subst hAb hcb
      rw [← hbs] at x1 HQb HA1
      clear k1 hbs hc hc0 hcl hcp
      have HBL := Aside0.mk hbl
      clear hbl
      obtain ⟨m1, hm1⟩ : ∃ m1 : Nat, m1 = min bs.length f.now.length := ⟨_, rfl⟩
      have HS := Aside0.mk (st_c HF.out.now HBL.out hm1)
      obtain ⟨A9, hcut, hC9⟩ := mid22n (Kd.V_reads' HNOW.out).2.2 (Kd.V_reads' HNOW.out).2.1 (a := (m1 : Int)) (b := (m1 : Int)) (Int.natCast_nonneg _) HS.out.1.1 HS.out.1.2
      rw [Int.toNat_natCast] at hcut hC9
      obtain ⟨us, hus⟩ : ∃ us, us = (f.now.take m1).drop m1 := ⟨_, rfl⟩
      have hus0 : us = [] := by rw [hus]; exact List.drop_eq_nil_of_le (by rw [List.length_take]; exact Nat.min_le_left _ _)
      rw [← hus] at hcut hC9
      have HUL := Aside0.mk (st_ul hus HF.out.now)
      have HUS := Aside0.mk hus0
      have HC9 := Aside0.mk hC9
      obtain ⟨e3, e4, e5, e6⟩ := HS.out.2
      clear hm1 hus hus0 hC9
      have l1a : (wr.alloc (.cells #[(.slice A0 f.now.length c0_), (.slice Ab bs.length cb), .int .i64 f.cut] 62)).cell? ⟨w.heap.size, 2, none⟩ = some (.bool false) := pw_cell_below (below_alloc (Below.refl _ wr) _) l1
      go_wp2_with fail
      obtain ⟨W3, hW3⟩ : ∃ W3, W3 = wr.alloc (.cells #[(.slice A0 f.now.length c0_), (.slice Ab bs.length cb), .int .i64 f.cut] 62) := ⟨_, rfl⟩
      rw [← hW3] at HQb ⊢
      have HBW := Aside0.mk (show Below wr.heap.size wr W3 by rw [hW3]; exact below_alloc (Below.refl _ _) _)
      have q0 : W3.cell? ⟨wr.heap.size, 0, none⟩ = some (.slice A0 f.now.length c0_) := HQb.out.cell 0
      have lk0 : W3.cell? ⟨w.heap.size, 0, none⟩ = some (.int .i64 k0) := pw_cell_below HBW.out l0
      have Q0 := Aside0.mk q0
      have HG3 := Aside0.mk (HA1.out.below HBW.out HD.out.lt)
      clear hW3 x0 x1 x2 l0 l1 l1a
      refine start_ (n := 22) (S := fun w' => w'.cell? ⟨wr.heap.size, 0, none⟩ = some (.slice A0 f.now.length c0_)) (ds := []) (bl 22 0x0) (by kernel_rfl) rfl (by kernel_rfl) (q0) (fun hHeld => ?_)
      refine pu 0 (some 67) (bl 22 0x1) ?_
      refine pu 2 (some 69) (bl 22 0x5) ?_
      refine pu 4 (some 71) (bl 22 0x15) ?_
      refine pu 5 (some 72) (bl 22 0x35) ?_
      refine pu 6 (some 73) (bl 22 0x75) ?_
      refine pu 10 (some 77) (bl 22 0x475) ?_
      refine pu 11 (some 78) (bl 22 0xc75) ?_
      refine pu 12 (some 79) (bl 22 0x1c75) ?_
      refine pu 16 (some 83) (bl 22 0x11c75) ?_
      refine pu 17 (some 84) (bl 22 0x31c75) ?_
      refine tk 3 (some 70) (bl 22 0x31c7d) hHeld ?_
      refine tk 7 (some 74) (bl 22 0x31cfd) hHeld ?_
      refine pu 8 (some 75) (bl 22 0x31dfd) ?_
      refine pu 9 (some 76) (bl 22 0x31ffd) ?_
      refine tk 13 (some 80) (bl 22 0x33ffd) hHeld ?_
      refine pu 14 (some 81) (bl 22 0x37ffd) ?_
      refine pu 15 (some 82) (bl 22 0x3fffd) ?_
      refine pu 18 (some 85) (bl 22 0x7fffd) ?_
      refine pu 19 (some 86) (bl 22 0xffffd) ?_
      refine one_ (i := 1) (N := some 68) (bl 22 0xfffff) rfl rfl (by kernel_rfl) (by decide) (fun K hK => ?_)
      refine Kd.R_append_rows_step (Kd.int .u8) (w0 := W3) W3.heap.size (by rfl) _ _ 22 5 (.int .u8 0) 1 rfl Try.underlying22 info5 rfl (by decide) (by decide) (.slice none 0 0) [] bs Ab bs.length cb (fun _ => True) (fun _ => False) rfl rfl (Kd.R_nil _ _ _ _ _) (Kd.V_reads' (Kd.V_below (Kd.V_below HBS.out HBW.out) (below_drew (Below.refl _ _)))).2.2 (fun _ _ h => h) (fun _ h => h.elim) (fun _ _ => trivial) (below_drew (Below.refl _ _)) (Nat.le_refl _) (by have := HBL.out; simp; omega) ?_
      intro v4 w4 ho4 hb4 hg4 hat4
      rw [List.nil_append] at ho4
      obtain ⟨A4, c4, rfl⟩ := Kd.R_slice ho4
      have HO4 := Aside0.mk ho4
      have HB4 := Aside0.mk hb4
      clear ho4 hb4 hg4 hat4
      refine hK.out _ _ (pw_cell_below HB4.out Q0.out) (fun hHeld => ?_)
      clear hK K
      refine norm_ (a' := ?_) ?_ ?_
      rotate_left
      · show Act.put _ (some 68) _ = _
        simp only [Act.put, List.setIfInBounds_toArray, List.set_cons_zero, List.set_cons_succ, i64_w, i32_w]
        rfl
      refine one_ (i := 20) (N := some 87) (bl 22 0x1fffff) rfl rfl (by kernel_rfl) (by decide) (fun K hK => ?_)
      refine Kd.R_append_rows_step (Kd.int .u8) (w0 := W3) W3.heap.size (by rfl) _ _ 22 5 (.int .u8 0) 1 rfl Try.underlying22 info5 rfl (by decide) (by decide) (.slice A4 bs.length c4) bs us A9 us.length (c0_ - m1) (fun _ => True) (fun _ => False) rfl rfl HO4.out (Kd.C_below (Kd.C_below HC9.out HBW.out) HB4.out) (fun _ _ h => h) (fun _ h => h.elim) (fun _ _ => trivial) HB4.out HB4.out.size (by have := HBL.out; have := HUL.out; omega) ?_
      intro v5 w5 ho5 hb5 hg5 hat5
      obtain ⟨zs, hz⟩ : ∃ zs, zs = bs ++ us := ⟨_, rfl⟩
      rw [← hz] at ho5
      obtain ⟨A5, c5, rfl⟩ := Kd.R_slice ho5
      have HO5 := Aside0.mk ho5
      have HB5 := Aside0.mk hb5
      have HZ := Aside0.mk hz
      have HG5 := Aside0.mk (HG3.out.below hb5 HG3.out.lt)
      clear ho5 hb5 hg5 hat5 hz
      have f0 : w5.frozen? ⟨g, 0, none⟩ = false := HG5.out.frozen 0
      have f1 : w5.frozen? ⟨g, 1, none⟩ = false := HG5.out.frozen 1
      have f2 : w5.frozen? ⟨g, 2, none⟩ = false := HG5.out.frozen 2
      have p0 : w5.cell? ⟨g, 0, none⟩ = some (.slice A0 f.now.length c0_) := HG5.out.cell 0
      have p1 : w5.cell? ⟨g, 1, none⟩ = some (.slice Ab bs.length cb) := HG5.out.cell 1
      have p2 : w5.cell? ⟨g, 2, none⟩ = some (.int .i64 dn.a.cut) := HG5.out.cell 2
      refine hK.out _ _ (pw_cell_below HB5.out Q0.out) (fun hHeld => ?_)
      clear hK K
      refine norm_ (a' := ?_) ?_ ?_
      rotate_left
      · show Act.put _ (some 87) _ = _
        simp only [Act.put, List.setIfInBounds_toArray, List.set_cons_zero, List.set_cons_succ, i64_w, i32_w]
        rfl
      refine pu 21 (some 9) (bl 22 0x3fffff) ?_
      refine done_ (by kernel_rfl) ?_
      go_wp2_with fail
      go_roundw
      case rel =>
        have T := ((((Tn.of_below (g := g) HBW.out).trans (Tn.of_below HB5.out)).set_own 0 (.slice A5 zs.length c5)).set_own 1 (.slice A5 zs.length c5)).set_own 2 (.int .i64 (-1))
        have TW := ((((Tn.refl g w5).set_own 0 (.slice A5 zs.length c5)).set_own 1 (.slice A5 zs.length c5)).set_own 2 (.int .i64 (-1)))
        have hA5 := ((HG5.out.set 0 (.slice A5 zs.length c5)).set 1 (.slice A5 zs.length c5)).set 2 (.int .i64 (-1))
        obtain ⟨V0, V1, V2, V3⟩ := HVV.out
        have hn := HD.out.nok
        have V5 := V_tn (V_own (ok := ok) HO5.out (fun k hk => HD.out.fresh k (Nat.le_trans HBW.out.size hk))) hn TW
        refine ⟨1, by decide, rfl, ⟨?_⟩, ⟨HT.out.trans T⟩, ⟨blk_tn HL.out T (fun e => by have := H.out.lt; omega)⟩⟩
        rw [HPUT.out, show lost k0 c0 f = ⟨zs, zs, -1⟩ from by rw [HCE.out]; exact (lost_keep K1.out).trans (by rw [show f.sure = zs from by rw [HZ.out, HUS.out, HBE.out, List.append_nil]])]
        exact HD.out.turn (d' := dn.put false ⟨zs, zs, -1⟩) T hA5 V5 V5 (V_tn V2 hn T) (V_tn V3 hn T)
      case measure => simp [intOf]; done
    · obtain ⟨dn, hdn⟩ : ∃ dn, dn = stN k0 k1 c0 c1 d 1 := ⟨_, rfl⟩
      rw [← hdn] at HD
      obtain ⟨f, hf⟩ : ∃ f, f = dn.b := ⟨_, rfl⟩
      have hfd : f = d.b := by rw [hf, hdn]; rfl
      have HF := Aside0.mk (show FlOk f by rw [hfd]; exact flok HG.out true)
      have hput : stN k0 k1 c0 c1 d 2 = dn.put true (lost k1 c1 f) := by rw [hfd, hdn]; rfl
      have HPUT := Aside0.mk hput
      obtain ⟨v0, v1, v2, v3, HA, V0, V1, V2, V3⟩ := HD.out.ex
      rw [← hf] at V2 V3
      obtain ⟨A2, c2_, rfl⟩ := Kd.V_slice V2
      obtain ⟨A3, c3_, rfl⟩ := Kd.V_slice V3
      have x0 : wr.cell? ⟨g, 3, none⟩ = some (.slice A2 f.now.length c2_) := HA.cell 3
      have x1 : wr.cell? ⟨g, 4, none⟩ = some (.slice A3 f.sure.length c3_) := HA.cell 4
      have x2 : wr.cell? ⟨g, 5, none⟩ = some (.int .i64 f.cut) := by rw [hf]; exact HA.cell 5
      have l0 : wr.cell? ⟨w.heap.size, 1, none⟩ = some (.int .i64 k1) := HL.out.cell 1
      have l1 : wr.cell? ⟨w.heap.size, 3, none⟩ = some (.bool c1) := HL.out.cell 3
      have HA1 := Aside0.mk HA
      have HVV := Aside0.mk (And.intro V0 (And.intro V1 (And.intro V2 V3)))
      have HNOW := Aside0.mk V2
      have HSURE := Aside0.mk V3
      have HQb := Aside0.mk (Blk.At.new wr #[(.slice A2 f.now.length c2_), (.slice A3 f.sure.length c3_), .int .i64 f.cut] 62)
      have hn02 : decide ((0 : Int) < 2) = true := by decide
      have en : wrap64 ((1 : Int) + 1) = (2 : Int) := by unfold wrap64; decide
      clear HA V0 V1 V2 V3 hfd hput hdn
      have HFD := Aside0.mk hf
      clear hf
      by_cases k1 : f.cut = -1
      case pos =>
        have b1 : decide (0 ≤ f.cut) = false := decide_eq_false (by omega)
        have b2 : decide (f.cut < 0) = true := decide_eq_true (by omega)
        have K1 := Aside0.mk k1
        obtain ⟨bs, hbs⟩ : ∃ bs, bs = f.sure := ⟨_, rfl⟩
        have HBE := Aside0.mk hbs
        have HBS := Aside0.mk (show Vb ok wr (.slice A3 bs.length c3_) bs by rw [hbs]; exact HSURE.out)
        have hbl : bs.length ≤ 1048576 := by rw [hbs]; exact HF.out.sure
        have hble : bs.length ≤ f.now.length := by rw [hbs]; exact (HF.out.none k1).length_le
        obtain ⟨Ab, hAb⟩ : ∃ Ab, Ab = A3 := ⟨_, rfl⟩
        obtain ⟨cb, hcb⟩ : ∃ cb, cb = c3_ := ⟨_, rfl⟩
        subst hAb hcb
        rw [← hbs] at x1 HQb HA1
        clear k1 hbs
        have HBL := Aside0.mk hbl
        clear hbl
        have HBLE := Aside0.mk hble
        clear hble
        obtain ⟨K, hK⟩ : ∃ K : Int, K = mn (mx k1 0) ((f.now.length : Int) - (bs.length : Int)) := ⟨_, rfl⟩
        obtain ⟨hi, hhi⟩ : ∃ hi : Nat, hi = bs.length + K.toNat := ⟨_, rfl⟩
        have HS := Aside0.mk (st_ab HBLE.out HF.out.now hK hhi)
        obtain ⟨A9, hcut, hC9⟩ := mid22n (Kd.V_reads' HNOW.out).2.2 (Kd.V_reads' HNOW.out).2.1 (a := (bs.length : Int)) (b := (hi : Int)) (Int.natCast_nonneg _) HS.out.1.1 HS.out.1.2
        rw [Int.toNat_natCast, Int.toNat_natCast] at hcut hC9
        obtain ⟨us, hus⟩ : ∃ us, us = (f.now.take hi).drop bs.length := ⟨_, rfl⟩
        rw [← hus] at hcut hC9
        have HUL := Aside0.mk (st_ul hus HF.out.now)
        have HUS := Aside0.mk (st_lost HBLE.out hK hhi hus)
        have HC9 := Aside0.mk hC9
        obtain ⟨e1, e2, e3, e4, e5⟩ := HS.out.2
        clear hK hhi hus hC9
        go_wp2_with fail
        obtain ⟨W3, hW3⟩ : ∃ W3, W3 = wr.alloc (.cells #[(.slice A2 f.now.length c2_), (.slice Ab bs.length cb), .int .i64 f.cut] 62) := ⟨_, rfl⟩
        rw [← hW3] at HQb ⊢
        have HBW := Aside0.mk (show Below wr.heap.size wr W3 by rw [hW3]; exact below_alloc (Below.refl _ _) _)
        have q0 : W3.cell? ⟨wr.heap.size, 0, none⟩ = some (.slice A2 f.now.length c2_) := HQb.out.cell 0
        have lk0 : W3.cell? ⟨w.heap.size, 1, none⟩ = some (.int .i64 k1) := pw_cell_below HBW.out l0
        have Q0 := Aside0.mk q0
        have HG3 := Aside0.mk (HA1.out.below HBW.out HD.out.lt)
        clear hW3 x0 x1 x2 l0 l1
        refine start_ (n := 13) (S := fun w' => w'.cell? ⟨w.heap.size, 1, none⟩ = some (.int .i64 k1) ∧ w'.cell? ⟨wr.heap.size, 0, none⟩ = some (.slice A2 f.now.length c2_)) (ds := []) (bl 13 0x0) (by kernel_rfl) rfl (by kernel_rfl) ⟨lk0, q0⟩ (fun hHeld => ?_)
        refine pu 0 (some 55) (bl 13 0x1) ?_
        refine pu 1 (some 56) (bl 13 0x3) ?_
        refine pu 2 (some 57) (bl 13 0x7) ?_
        refine pu 5 (some 60) (bl 13 0x27) ?_
        refine pu 8 (some 63) (bl 13 0x127) ?_
        refine pu 9 (some 64) (bl 13 0x327) ?_
        refine tk 3 (some 58) (bl 13 0x32f) hHeld ?_
        refine pu 4 (some 59) (bl 13 0x33f) ?_
        refine tk 6 (some 61) (bl 13 0x37f) hHeld ?_
        refine pu 7 (some 62) (bl 13 0x3ff) ?_
        refine pu 10 (some 65) (bl 13 0x7ff) ?_
        refine pu 11 (some 66) (bl 13 0xfff) ?_
        refine pu 12 (some 8) (bl 13 0x1fff) ?_
        refine done_ (by kernel_rfl) ?_
        go_wp2_with fail
        refine start_ (n := 22) (S := fun w' => w'.cell? ⟨wr.heap.size, 0, none⟩ = some (.slice A2 f.now.length c2_)) (ds := []) (bl 22 0x0) (by kernel_rfl) rfl (by kernel_rfl) (q0) (fun hHeld => ?_)
        refine pu 0 (some 67) (bl 22 0x1) ?_
        refine pu 2 (some 69) (bl 22 0x5) ?_
        refine pu 4 (some 71) (bl 22 0x15) ?_
        refine pu 5 (some 72) (bl 22 0x35) ?_
        refine pu 6 (some 73) (bl 22 0x75) ?_
        refine pu 10 (some 77) (bl 22 0x475) ?_
        refine pu 11 (some 78) (bl 22 0xc75) ?_
        refine pu 12 (some 79) (bl 22 0x1c75) ?_
        refine pu 16 (some 83) (bl 22 0x11c75) ?_
        refine pu 17 (some 84) (bl 22 0x31c75) ?_
        refine tk 3 (some 70) (bl 22 0x31c7d) hHeld ?_
        refine tk 7 (some 74) (bl 22 0x31cfd) hHeld ?_
        refine pu 8 (some 75) (bl 22 0x31dfd) ?_
        refine pu 9 (some 76) (bl 22 0x31ffd) ?_
        refine tk 13 (some 80) (bl 22 0x33ffd) hHeld ?_
        refine pu 14 (some 81) (bl 22 0x37ffd) ?_
        refine pu 15 (some 82) (bl 22 0x3fffd) ?_
        refine pu 18 (some 85) (bl 22 0x7fffd) ?_
        refine pu 19 (some 86) (bl 22 0xffffd) ?_
        refine one_ (i := 1) (N := some 68) (bl 22 0xfffff) rfl rfl (by kernel_rfl) (by decide) (fun K hK => ?_)
        refine Kd.R_append_rows_step (Kd.int .u8) (w0 := W3) W3.heap.size (by rfl) _ _ 22 5 (.int .u8 0) 1 rfl Try.underlying22 info5 rfl (by decide) (by decide) (.slice none 0 0) [] bs Ab bs.length cb (fun _ => True) (fun _ => False) rfl rfl (Kd.R_nil _ _ _ _ _) (Kd.V_reads' (Kd.V_below (Kd.V_below HBS.out HBW.out) ((below_drew (Below.refl W3.heap.size W3)).trans (below_drew (Below.refl _ _))))).2.2 (fun _ _ h => h) (fun _ h => h.elim) (fun _ _ => trivial) ((below_drew (Below.refl W3.heap.size W3)).trans (below_drew (Below.refl _ _))) (Nat.le_refl _) (by have := HBL.out; simp; omega) ?_
        intro v4 w4 ho4 hb4 hg4 hat4
        rw [List.nil_append] at ho4
        obtain ⟨A4, c4, rfl⟩ := Kd.R_slice ho4
        have HO4 := Aside0.mk ho4
        have HB4 := Aside0.mk hb4
        clear ho4 hb4 hg4 hat4
        refine hK.out _ _ (pw_cell_below HB4.out Q0.out) (fun hHeld => ?_)
        clear hK K
        refine norm_ (a' := ?_) ?_ ?_
        rotate_left
        · show Act.put _ (some 68) _ = _
          simp only [Act.put, List.setIfInBounds_toArray, List.set_cons_zero, List.set_cons_succ, i64_w, i32_w]
          rfl
        refine one_ (i := 20) (N := some 87) (bl 22 0x1fffff) rfl rfl (by kernel_rfl) (by decide) (fun K hK => ?_)
        refine Kd.R_append_rows_step (Kd.int .u8) (w0 := W3) W3.heap.size (by rfl) _ _ 22 5 (.int .u8 0) 1 rfl Try.underlying22 info5 rfl (by decide) (by decide) (.slice A4 bs.length c4) bs us A9 us.length (c2_ - bs.length) (fun _ => True) (fun _ => False) rfl rfl HO4.out (Kd.C_below (Kd.C_below HC9.out HBW.out) HB4.out) (fun _ _ h => h) (fun _ h => h.elim) (fun _ _ => trivial) HB4.out HB4.out.size (by have := HBL.out; have := HUL.out; omega) ?_
        intro v5 w5 ho5 hb5 hg5 hat5
        obtain ⟨zs, hz⟩ : ∃ zs, zs = bs ++ us := ⟨_, rfl⟩
        rw [← hz] at ho5
        obtain ⟨A5, c5, rfl⟩ := Kd.R_slice ho5
        have HO5 := Aside0.mk ho5
        have HB5 := Aside0.mk hb5
        have HZ := Aside0.mk hz
        have HG5 := Aside0.mk (HG3.out.below hb5 HG3.out.lt)
        clear ho5 hb5 hg5 hat5 hz
        have f0 : w5.frozen? ⟨g, 3, none⟩ = false := HG5.out.frozen 3
        have f1 : w5.frozen? ⟨g, 4, none⟩ = false := HG5.out.frozen 4
        have f2 : w5.frozen? ⟨g, 5, none⟩ = false := HG5.out.frozen 5
        have p0 : w5.cell? ⟨g, 3, none⟩ = some (.slice A2 f.now.length c2_) := HG5.out.cell 3
        have p1 : w5.cell? ⟨g, 4, none⟩ = some (.slice Ab bs.length cb) := HG5.out.cell 4
        have p2 : w5.cell? ⟨g, 5, none⟩ = some (.int .i64 dn.b.cut) := HG5.out.cell 5
        refine hK.out _ _ (pw_cell_below HB5.out Q0.out) (fun hHeld => ?_)
        clear hK K
        refine norm_ (a' := ?_) ?_ ?_
        rotate_left
        · show Act.put _ (some 87) _ = _
          simp only [Act.put, List.setIfInBounds_toArray, List.set_cons_zero, List.set_cons_succ, i64_w, i32_w]
          rfl
        refine pu 21 (some 9) (bl 22 0x3fffff) ?_
        refine done_ (by kernel_rfl) ?_
        go_wp2_with fail
        go_roundw
        case rel =>
          have T := ((((Tn.of_below (g := g) HBW.out).trans (Tn.of_below HB5.out)).set_own 3 (.slice A5 zs.length c5)).set_own 4 (.slice A5 zs.length c5)).set_own 5 (.int .i64 (-1))
          have TW := ((((Tn.refl g w5).set_own 3 (.slice A5 zs.length c5)).set_own 4 (.slice A5 zs.length c5)).set_own 5 (.int .i64 (-1)))
          have hA5 := ((HG5.out.set 3 (.slice A5 zs.length c5)).set 4 (.slice A5 zs.length c5)).set 5 (.int .i64 (-1))
          obtain ⟨V0, V1, V2, V3⟩ := HVV.out
          have hn := HD.out.nok
          have V5 := V_tn (V_own (ok := ok) HO5.out (fun k hk => HD.out.fresh k (Nat.le_trans HBW.out.size hk))) hn TW
          refine ⟨2, by decide, rfl, ⟨?_⟩, ⟨HT.out.trans T⟩, ⟨blk_tn HL.out T (fun e => by have := H.out.lt; omega)⟩⟩
          rw [HPUT.out, show lost k1 c1 f = ⟨zs, zs, -1⟩ from (lost_none K1.out).trans (by rw [show lostT k1 f.sure f = zs from by rw [HZ.out, ← HUS.out, HBE.out]])]
          exact HD.out.turn (d' := dn.put true ⟨zs, zs, -1⟩) T hA5 (V_tn V0 hn T) (V_tn V1 hn T) V5 V5
        case measure => simp [intOf]; done
      obtain ⟨hc0, hcl, hcp⟩ := HF.out.some k1
      have b1 : decide (0 ≤ f.cut) = true := decide_eq_true (by omega)
      have b2 : decide (f.cut < 0) = false := decide_eq_false (by omega)
      have K1 := Aside0.mk k1
      by_cases hc : c1 = true
      case pos =>
        have HCE := Aside0.mk hc
        rw [hc] at l1
        have hs := fun W => take23 (A := A3) (c := c3_) (xs := f.sure) hc0 (Int.le_of_lt hcl) (Kd.V_at HSURE.out).2.1 W
        have hbs0 := V_take HSURE.out (m := f.cut.toNat) (by omega)
        obtain ⟨bs, hbs⟩ : ∃ bs, bs = f.sure.take f.cut.toNat := ⟨_, rfl⟩
        rw [← hbs] at hs hbs0
        have HBE := Aside0.mk hbs
        have HBS := Aside0.mk hbs0
        have hbl : bs.length ≤ 1048576 := by rw [hbs, List.length_take]; have := HF.out.sure; omega
        have hble : bs.length ≤ f.now.length := by rw [hbs]; exact hcp.length_le
        obtain ⟨Ab, hAb⟩ : ∃ Ab, Ab = A3 := ⟨_, rfl⟩
        obtain ⟨cb, hcb⟩ : ∃ cb, cb = c3_ := ⟨_, rfl⟩
        subst hAb hcb
        clear k1 hbs hbs0 hc hc0 hcl hcp
        have HBL := Aside0.mk hbl
        clear hbl
        have HBLE := Aside0.mk hble
        clear hble
        obtain ⟨K, hK⟩ : ∃ K : Int, K = mn (mx k1 0) ((f.now.length : Int) - (bs.length : Int)) := ⟨_, rfl⟩
        obtain ⟨hi, hhi⟩ : ∃ hi : Nat, hi = bs.length + K.toNat := ⟨_, rfl⟩
        have HS := Aside0.mk (st_ab HBLE.out HF.out.now hK hhi)
        obtain ⟨A9, hcut, hC9⟩ := mid22n (Kd.V_reads' HNOW.out).2.2 (Kd.V_reads' HNOW.out).2.1 (a := (bs.length : Int)) (b := (hi : Int)) (Int.natCast_nonneg _) HS.out.1.1 HS.out.1.2
        rw [Int.toNat_natCast, Int.toNat_natCast] at hcut hC9
        obtain ⟨us, hus⟩ : ∃ us, us = (f.now.take hi).drop bs.length := ⟨_, rfl⟩
        rw [← hus] at hcut hC9
        have HUL := Aside0.mk (st_ul hus HF.out.now)
        have HUS := Aside0.mk (st_lost HBLE.out hK hhi hus)
        have HC9 := Aside0.mk hC9
        obtain ⟨e1, e2, e3, e4, e5⟩ := HS.out.2
        clear hK hhi hus hC9
        have l1a : (wr.alloc (.cells #[(.slice A2 f.now.length c2_), (.slice Ab f.sure.length cb), .int .i64 f.cut] 62)).cell? ⟨w.heap.size, 3, none⟩ = some (.bool true) := pw_cell_below (below_alloc (Below.refl _ wr) _) l1
        go_wp2_with fail
        obtain ⟨W3, hW3⟩ : ∃ W3, W3 = wr.alloc (.cells #[(.slice A2 f.now.length c2_), (.slice Ab f.sure.length cb), .int .i64 f.cut] 62) := ⟨_, rfl⟩
        rw [← hW3] at HQb ⊢
        have HBW := Aside0.mk (show Below wr.heap.size wr W3 by rw [hW3]; exact below_alloc (Below.refl _ _) _)
        have q0 : W3.cell? ⟨wr.heap.size, 0, none⟩ = some (.slice A2 f.now.length c2_) := HQb.out.cell 0
        have lk0 : W3.cell? ⟨w.heap.size, 1, none⟩ = some (.int .i64 k1) := pw_cell_below HBW.out l0
        have Q0 := Aside0.mk q0
        have HG3 := Aside0.mk (HA1.out.below HBW.out HD.out.lt)
        clear hW3 x0 x1 x2 l0 l1 l1a
        refine start_ (n := 13) (S := fun w' => w'.cell? ⟨w.heap.size, 1, none⟩ = some (.int .i64 k1) ∧ w'.cell? ⟨wr.heap.size, 0, none⟩ = some (.slice A2 f.now.length c2_)) (ds := []) (bl 13 0x0) (by kernel_rfl) rfl (by kernel_rfl) ⟨lk0, q0⟩ (fun hHeld => ?_)
        refine pu 0 (some 55) (bl 13 0x1) ?_
        refine pu 1 (some 56) (bl 13 0x3) ?_
        refine pu 2 (some 57) (bl 13 0x7) ?_
        refine pu 5 (some 60) (bl 13 0x27) ?_
        refine pu 8 (some 63) (bl 13 0x127) ?_
        refine pu 9 (some 64) (bl 13 0x327) ?_
        refine tk 3 (some 58) (bl 13 0x32f) hHeld ?_
        refine pu 4 (some 59) (bl 13 0x33f) ?_
        refine tk 6 (some 61) (bl 13 0x37f) hHeld ?_
        refine pu 7 (some 62) (bl 13 0x3ff) ?_
        refine pu 10 (some 65) (bl 13 0x7ff) ?_
        refine pu 11 (some 66) (bl 13 0xfff) ?_
        refine pu 12 (some 8) (bl 13 0x1fff) ?_
        refine done_ (by kernel_rfl) ?_
        go_wp2_with fail
        refine start_ (n := 22) (S := fun w' => w'.cell? ⟨wr.heap.size, 0, none⟩ = some (.slice A2 f.now.length c2_)) (ds := []) (bl 22 0x0) (by kernel_rfl) rfl (by kernel_rfl) (q0) (fun hHeld => ?_)
        refine pu 0 (some 67) (bl 22 0x1) ?_
        refine pu 2 (some 69) (bl 22 0x5) ?_
        refine pu 4 (some 71) (bl 22 0x15) ?_
        refine pu 5 (some 72) (bl 22 0x35) ?_
        refine pu 6 (some 73) (bl 22 0x75) ?_
        refine pu 10 (some 77) (bl 22 0x475) ?_
        refine pu 11 (some 78) (bl 22 0xc75) ?_
        refine pu 12 (some 79) (bl 22 0x1c75) ?_
        refine pu 16 (some 83) (bl 22 0x11c75) ?_
        refine pu 17 (some 84) (bl 22 0x31c75) ?_
        refine tk 3 (some 70) (bl 22 0x31c7d) hHeld ?_
        refine tk 7 (some 74) (bl 22 0x31cfd) hHeld ?_
        refine pu 8 (some 75) (bl 22 0x31dfd) ?_
        refine pu 9 (some 76) (bl 22 0x31ffd) ?_
        refine tk 13 (some 80) (bl 22 0x33ffd) hHeld ?_
        refine pu 14 (some 81) (bl 22 0x37ffd) ?_
        refine pu 15 (some 82) (bl 22 0x3fffd) ?_
        refine pu 18 (some 85) (bl 22 0x7fffd) ?_
        refine pu 19 (some 86) (bl 22 0xffffd) ?_
        refine one_ (i := 1) (N := some 68) (bl 22 0xfffff) rfl rfl (by kernel_rfl) (by decide) (fun K hK => ?_)
        refine Kd.R_append_rows_step (Kd.int .u8) (w0 := W3) W3.heap.size (by rfl) _ _ 22 5 (.int .u8 0) 1 rfl Try.underlying22 info5 rfl (by decide) (by decide) (.slice none 0 0) [] bs Ab bs.length cb (fun _ => True) (fun _ => False) rfl rfl (Kd.R_nil _ _ _ _ _) (Kd.V_reads' (Kd.V_below (Kd.V_below HBS.out HBW.out) ((below_drew (Below.refl W3.heap.size W3)).trans (below_drew (Below.refl _ _))))).2.2 (fun _ _ h => h) (fun _ h => h.elim) (fun _ _ => trivial) ((below_drew (Below.refl W3.heap.size W3)).trans (below_drew (Below.refl _ _))) (Nat.le_refl _) (by have := HBL.out; simp; omega) ?_
        intro v4 w4 ho4 hb4 hg4 hat4
        rw [List.nil_append] at ho4
        obtain ⟨A4, c4, rfl⟩ := Kd.R_slice ho4
        have HO4 := Aside0.mk ho4
        have HB4 := Aside0.mk hb4
        clear ho4 hb4 hg4 hat4
        refine hK.out _ _ (pw_cell_below HB4.out Q0.out) (fun hHeld => ?_)
        clear hK K
        refine norm_ (a' := ?_) ?_ ?_
        rotate_left
        · show Act.put _ (some 68) _ = _
          simp only [Act.put, List.setIfInBounds_toArray, List.set_cons_zero, List.set_cons_succ, i64_w, i32_w]
          rfl
        refine one_ (i := 20) (N := some 87) (bl 22 0x1fffff) rfl rfl (by kernel_rfl) (by decide) (fun K hK => ?_)
        refine Kd.R_append_rows_step (Kd.int .u8) (w0 := W3) W3.heap.size (by rfl) _ _ 22 5 (.int .u8 0) 1 rfl Try.underlying22 info5 rfl (by decide) (by decide) (.slice A4 bs.length c4) bs us A9 us.length (c2_ - bs.length) (fun _ => True) (fun _ => False) rfl rfl HO4.out (Kd.C_below (Kd.C_below HC9.out HBW.out) HB4.out) (fun _ _ h => h) (fun _ h => h.elim) (fun _ _ => trivial) HB4.out HB4.out.size (by have := HBL.out; have := HUL.out; omega) ?_
        intro v5 w5 ho5 hb5 hg5 hat5
        obtain ⟨zs, hz⟩ : ∃ zs, zs = bs ++ us := ⟨_, rfl⟩
        rw [← hz] at ho5
        obtain ⟨A5, c5, rfl⟩ := Kd.R_slice ho5
        have HO5 := Aside0.mk ho5
        have HB5 := Aside0.mk hb5
        have HZ := Aside0.mk hz
        have HG5 := Aside0.mk (HG3.out.below hb5 HG3.out.lt)
        clear ho5 hb5 hg5 hat5 hz
        have f0 : w5.frozen? ⟨g, 3, none⟩ = false := HG5.out.frozen 3
        have f1 : w5.frozen? ⟨g, 4, none⟩ = false := HG5.out.frozen 4
        have f2 : w5.frozen? ⟨g, 5, none⟩ = false := HG5.out.frozen 5
        have p0 : w5.cell? ⟨g, 3, none⟩ = some (.slice A2 f.now.length c2_) := HG5.out.cell 3
        have p1 : w5.cell? ⟨g, 4, none⟩ = some (.slice Ab f.sure.length cb) := HG5.out.cell 4
        have p2 : w5.cell? ⟨g, 5, none⟩ = some (.int .i64 dn.b.cut) := HG5.out.cell 5
        refine hK.out _ _ (pw_cell_below HB5.out Q0.out) (fun hHeld => ?_)
        clear hK K
        refine norm_ (a' := ?_) ?_ ?_
        rotate_left
        · show Act.put _ (some 87) _ = _
          simp only [Act.put, List.setIfInBounds_toArray, List.set_cons_zero, List.set_cons_succ, i64_w, i32_w]
          rfl
        refine pu 21 (some 9) (bl 22 0x3fffff) ?_
        refine done_ (by kernel_rfl) ?_
        go_wp2_with fail
        go_roundw
        case rel =>
          have T := ((((Tn.of_below (g := g) HBW.out).trans (Tn.of_below HB5.out)).set_own 3 (.slice A5 zs.length c5)).set_own 4 (.slice A5 zs.length c5)).set_own 5 (.int .i64 (-1))
          have TW := ((((Tn.refl g w5).set_own 3 (.slice A5 zs.length c5)).set_own 4 (.slice A5 zs.length c5)).set_own 5 (.int .i64 (-1)))
          have hA5 := ((HG5.out.set 3 (.slice A5 zs.length c5)).set 4 (.slice A5 zs.length c5)).set 5 (.int .i64 (-1))
          obtain ⟨V0, V1, V2, V3⟩ := HVV.out
          have hn := HD.out.nok
          have V5 := V_tn (V_own (ok := ok) HO5.out (fun k hk => HD.out.fresh k (Nat.le_trans HBW.out.size hk))) hn TW
          refine ⟨2, by decide, rfl, ⟨?_⟩, ⟨HT.out.trans T⟩, ⟨blk_tn HL.out T (fun e => by have := H.out.lt; omega)⟩⟩
          rw [HPUT.out, show lost k1 c1 f = ⟨zs, zs, -1⟩ from by rw [HCE.out]; exact (lost_cut K1.out).trans (by rw [show lostT k1 (f.sure.take f.cut.toNat) f = zs from by rw [HZ.out, ← HUS.out, HBE.out]])]
          exact HD.out.turn (d' := dn.put true ⟨zs, zs, -1⟩) T hA5 (V_tn V0 hn T) (V_tn V1 hn T) V5 V5
        case measure => simp [intOf]; done
      have hc := Bool.eq_false_iff.2 hc
      have HCE := Aside0.mk hc
      rw [hc] at l1
      obtain ⟨bs, hbs⟩ : ∃ bs, bs = f.sure := ⟨_, rfl⟩
      have HBE := Aside0.mk hbs
      have HBS := Aside0.mk (show Vb ok wr (.slice A3 bs.length c3_) bs by rw [hbs]; exact HSURE.out)
      have hbl : bs.length ≤ 1048576 := by rw [hbs]; exact HF.out.sure
      obtain ⟨Ab, hAb⟩ : ∃ Ab, Ab = A3 := ⟨_, rfl⟩
      obtain ⟨cb, hcb⟩ : ∃ cb, cb = c3_ := ⟨_, rfl⟩
      subst hAb hcb
      rw [← hbs] at x1 HQb HA1
      clear k1 hbs hc hc0 hcl hcp
      have HBL := Aside0.mk hbl
      clear hbl
      obtain ⟨m1, hm1⟩ : ∃ m1 : Nat, m1 = min bs.length f.now.length := ⟨_, rfl⟩
      have HS := Aside0.mk (st_c HF.out.now HBL.out hm1)
      obtain ⟨A9, hcut, hC9⟩ := mid22n (Kd.V_reads' HNOW.out).2.2 (Kd.V_reads' HNOW.out).2.1 (a := (m1 : Int)) (b := (m1 : Int)) (Int.natCast_nonneg _) HS.out.1.1 HS.out.1.2
      rw [Int.toNat_natCast] at hcut hC9
      obtain ⟨us, hus⟩ : ∃ us, us = (f.now.take m1).drop m1 := ⟨_, rfl⟩
      have hus0 : us = [] := by rw [hus]; exact List.drop_eq_nil_of_le (by rw [List.length_take]; exact Nat.min_le_left _ _)
      rw [← hus] at hcut hC9
      have HUL := Aside0.mk (st_ul hus HF.out.now)
      have HUS := Aside0.mk hus0
      have HC9 := Aside0.mk hC9
      obtain ⟨e3, e4, e5, e6⟩ := HS.out.2
      clear hm1 hus hus0 hC9
      have l1a : (wr.alloc (.cells #[(.slice A2 f.now.length c2_), (.slice Ab bs.length cb), .int .i64 f.cut] 62)).cell? ⟨w.heap.size, 3, none⟩ = some (.bool false) := pw_cell_below (below_alloc (Below.refl _ wr) _) l1
      go_wp2_with fail
      obtain ⟨W3, hW3⟩ : ∃ W3, W3 = wr.alloc (.cells #[(.slice A2 f.now.length c2_), (.slice Ab bs.length cb), .int .i64 f.cut] 62) := ⟨_, rfl⟩
      rw [← hW3] at HQb ⊢
      have HBW := Aside0.mk (show Below wr.heap.size wr W3 by rw [hW3]; exact below_alloc (Below.refl _ _) _)
      have q0 : W3.cell? ⟨wr.heap.size, 0, none⟩ = some (.slice A2 f.now.length c2_) := HQb.out.cell 0
      have lk0 : W3.cell? ⟨w.heap.size, 1, none⟩ = some (.int .i64 k1) := pw_cell_below HBW.out l0
      have Q0 := Aside0.mk q0
      have HG3 := Aside0.mk (HA1.out.below HBW.out HD.out.lt)
      clear hW3 x0 x1 x2 l0 l1 l1a
      refine start_ (n := 22) (S := fun w' => w'.cell? ⟨wr.heap.size, 0, none⟩ = some (.slice A2 f.now.length c2_)) (ds := []) (bl 22 0x0) (by kernel_rfl) rfl (by kernel_rfl) (q0) (fun hHeld => ?_)
      refine pu 0 (some 67) (bl 22 0x1) ?_
      refine pu 2 (some 69) (bl 22 0x5) ?_
      refine pu 4 (some 71) (bl 22 0x15) ?_
      refine pu 5 (some 72) (bl 22 0x35) ?_
      refine pu 6 (some 73) (bl 22 0x75) ?_
      refine pu 10 (some 77) (bl 22 0x475) ?_
      refine pu 11 (some 78) (bl 22 0xc75) ?_
      refine pu 12 (some 79) (bl 22 0x1c75) ?_
      refine pu 16 (some 83) (bl 22 0x11c75) ?_
      refine pu 17 (some 84) (bl 22 0x31c75) ?_
      refine tk 3 (some 70) (bl 22 0x31c7d) hHeld ?_
      refine tk 7 (some 74) (bl 22 0x31cfd) hHeld ?_
      refine pu 8 (some 75) (bl 22 0x31dfd) ?_
      refine pu 9 (some 76) (bl 22 0x31ffd) ?_
      refine tk 13 (some 80) (bl 22 0x33ffd) hHeld ?_
      refine pu 14 (some 81) (bl 22 0x37ffd) ?_
      refine pu 15 (some 82) (bl 22 0x3fffd) ?_
      refine pu 18 (some 85) (bl 22 0x7fffd) ?_
      refine pu 19 (some 86) (bl 22 0xffffd) ?_
      refine one_ (i := 1) (N := some 68) (bl 22 0xfffff) rfl rfl (by kernel_rfl) (by decide) (fun K hK => ?_)
      refine Kd.R_append_rows_step (Kd.int .u8) (w0 := W3) W3.heap.size (by rfl) _ _ 22 5 (.int .u8 0) 1 rfl Try.underlying22 info5 rfl (by decide) (by decide) (.slice none 0 0) [] bs Ab bs.length cb (fun _ => True) (fun _ => False) rfl rfl (Kd.R_nil _ _ _ _ _) (Kd.V_reads' (Kd.V_below (Kd.V_below HBS.out HBW.out) (below_drew (Below.refl _ _)))).2.2 (fun _ _ h => h) (fun _ h => h.elim) (fun _ _ => trivial) (below_drew (Below.refl _ _)) (Nat.le_refl _) (by have := HBL.out; simp; omega) ?_
      intro v4 w4 ho4 hb4 hg4 hat4
      rw [List.nil_append] at ho4
      obtain ⟨A4, c4, rfl⟩ := Kd.R_slice ho4
      have HO4 := Aside0.mk ho4
      have HB4 := Aside0.mk hb4
      clear ho4 hb4 hg4 hat4
      refine hK.out _ _ (pw_cell_below HB4.out Q0.out) (fun hHeld => ?_)
      clear hK K
      refine norm_ (a' := ?_) ?_ ?_
      rotate_left
      · show Act.put _ (some 68) _ = _
        simp only [Act.put, List.setIfInBounds_toArray, List.set_cons_zero, List.set_cons_succ, i64_w, i32_w]
        rfl
      refine one_ (i := 20) (N := some 87) (bl 22 0x1fffff) rfl rfl (by kernel_rfl) (by decide) (fun K hK => ?_)
      refine Kd.R_append_rows_step (Kd.int .u8) (w0 := W3) W3.heap.size (by rfl) _ _ 22 5 (.int .u8 0) 1 rfl Try.underlying22 info5 rfl (by decide) (by decide) (.slice A4 bs.length c4) bs us A9 us.length (c2_ - m1) (fun _ => True) (fun _ => False) rfl rfl HO4.out (Kd.C_below (Kd.C_below HC9.out HBW.out) HB4.out) (fun _ _ h => h) (fun _ h => h.elim) (fun _ _ => trivial) HB4.out HB4.out.size (by have := HBL.out; have := HUL.out; omega) ?_
      intro v5 w5 ho5 hb5 hg5 hat5
      obtain ⟨zs, hz⟩ : ∃ zs, zs = bs ++ us := ⟨_, rfl⟩
      rw [← hz] at ho5
      obtain ⟨A5, c5, rfl⟩ := Kd.R_slice ho5
      have HO5 := Aside0.mk ho5
      have HB5 := Aside0.mk hb5
      have HZ := Aside0.mk hz
      have HG5 := Aside0.mk (HG3.out.below hb5 HG3.out.lt)
      clear ho5 hb5 hg5 hat5 hz
      have f0 : w5.frozen? ⟨g, 3, none⟩ = false := HG5.out.frozen 3
      have f1 : w5.frozen? ⟨g, 4, none⟩ = false := HG5.out.frozen 4
      have f2 : w5.frozen? ⟨g, 5, none⟩ = false := HG5.out.frozen 5
      have p0 : w5.cell? ⟨g, 3, none⟩ = some (.slice A2 f.now.length c2_) := HG5.out.cell 3
      have p1 : w5.cell? ⟨g, 4, none⟩ = some (.slice Ab bs.length cb) := HG5.out.cell 4
      have p2 : w5.cell? ⟨g, 5, none⟩ = some (.int .i64 dn.b.cut) := HG5.out.cell 5
      refine hK.out _ _ (pw_cell_below HB5.out Q0.out) (fun hHeld => ?_)
      clear hK K
      refine norm_ (a' := ?_) ?_ ?_
      rotate_left
      · show Act.put _ (some 87) _ = _
        simp only [Act.put, List.setIfInBounds_toArray, List.set_cons_zero, List.set_cons_succ, i64_w, i32_w]
        rfl
      refine pu 21 (some 9) (bl 22 0x3fffff) ?_
      refine done_ (by kernel_rfl) ?_
      go_wp2_with fail
      go_roundw
      case rel =>
        have T := ((((Tn.of_below (g := g) HBW.out).trans (Tn.of_below HB5.out)).set_own 3 (.slice A5 zs.length c5)).set_own 4 (.slice A5 zs.length c5)).set_own 5 (.int .i64 (-1))
        have TW := ((((Tn.refl g w5).set_own 3 (.slice A5 zs.length c5)).set_own 4 (.slice A5 zs.length c5)).set_own 5 (.int .i64 (-1)))
        have hA5 := ((HG5.out.set 3 (.slice A5 zs.length c5)).set 4 (.slice A5 zs.length c5)).set 5 (.int .i64 (-1))
        obtain ⟨V0, V1, V2, V3⟩ := HVV.out
        have hn := HD.out.nok
        have V5 := V_tn (V_own (ok := ok) HO5.out (fun k hk => HD.out.fresh k (Nat.le_trans HBW.out.size hk))) hn TW
        refine ⟨2, by decide, rfl, ⟨?_⟩, ⟨HT.out.trans T⟩, ⟨blk_tn HL.out T (fun e => by have := H.out.lt; omega)⟩⟩
        rw [HPUT.out, show lost k1 c1 f = ⟨zs, zs, -1⟩ from by rw [HCE.out]; exact (lost_keep K1.out).trans (by rw [show f.sure = zs from by rw [HZ.out, HUS.out, HBE.out, List.append_nil]])]
        exact HD.out.turn (d' := dn.put true ⟨zs, zs, -1⟩) T hA5 (V_tn V0 hn T) (V_tn V1 hn T) V5 V5
      case measure => simp [intOf]; done
    · go_wp2_with fail
      go_ret
      exact ⟨rfl, HD.out, HT.out⟩
    · omega
end
end Go.Proofs.Ytdlfabbhdelinaa.Q
