/- The document's journal, walked: Open. No condition but those typed. -/
import Derived.Test.YtdlfabbhdelinaaShort
import Derived.Test.YtdlfabbhdelinaaWalk0
import Derived.Test.YtdlfabbhdelinaaDisk09
import Derived.Test.YtdlfabbhdelinaaJx4
import Derived.Outline
namespace Go.Proofs.Ytdlfabbhdelinaa.Q
open Go.RowKit Go.Proofs.YtdlfabbhdelinaaW.PrintWords Go.Proofs.YtdlfabbhdelinaaW.PrintLast Go.Proofs.YtdlfabbhdelinaaW.PrintMore
open Go.Proofs.Ytdlfabbhdelinaa.Dk Go.Proofs.Ytdlfabbhdelinaa.Sh
attribute [local go_sem] max2_int min2_int max_two min_two max_three min_three max_four min_four   -- for this text's walks alone
set_option linter.unusedVariables false
set_option linter.unusedSimpArgs false
set_option maxRecDepth 100000
/-- All bytes of a disk are bytes. -/
structure ByD (d : D) : Prop where
  an : Jf.Bys d.a.now
  as_ : Jf.Bys d.a.sure
  bn : Jf.Bys d.b.now
  bs : Jf.Bys d.b.sure
theorem ByD.fl {d : D} (h : ByD d) (i : Bool) : Jf.Bys (d.fl i).now := by
  cases i
  · exact h.an
  · exact h.bn
theorem row_tn {α : Type} {dk : Kd α} {e base g p : Nat} {v : Value} {xs : List α} {W W' : World} (h : dk.R e W base (fun k => k ≠ g ∧ k ≠ p) v xs) (T : Tn g W W') : dk.R e W' base (fun k => k ≠ g ∧ k ≠ p) v xs := Kd.R_step h (fun k hk hl => T.block k hl hk.1)
theorem row_tn0 {α : Type} {dk : Kd α} {e base g p : Nat} {v : Value} {xs : List α} {W' : World} (h : dk.R e W' base (fun _ => True) v xs) (hg : g < base) (hp : p < base) : dk.R e W' base (fun k => k ≠ g ∧ k ≠ p) v xs :=
  Kd.R_mono (Kd.R_bound h) (fun k hk => ⟨by have := hk.2.1; omega, by have := hk.2.1; omega⟩)
theorem open_end {ok ok' : Nat → Prop} {g base : Nat} {d d0 : D} {W w : World} {v : Value} {l : List (List Int)} (hA : Dr.At g ok' d w) (hT : Tn g W w) (hR : Kd.R (Kd.slice 5 (Kd.int .u8)) 22 w base (fun k => k ≠ g ∧ k ≠ W.heap.size) v l) (hb : W.heap.size ≤ base) (hZ : ∀ k, ok' k → k ≠ W.heap.size) (hok : ∀ k, ok' k → ok k) (H : Dr.At g ok d0 W) (x0 x1 x2 : Value) :
    Dr.At g ok d (((w.setCell ⟨W.heap.size, 0, none⟩ x0).setCell ⟨W.heap.size, 1, none⟩ x1).setCell ⟨W.heap.size, 2, none⟩ x2) ∧ Tn g W (((w.setCell ⟨W.heap.size, 0, none⟩ x0).setCell ⟨W.heap.size, 1, none⟩ x1).setCell ⟨W.heap.size, 2, none⟩ x2) ∧
      Rs W.heap.size (fun k => k ≠ g) (((w.setCell ⟨W.heap.size, 0, none⟩ x0).setCell ⟨W.heap.size, 1, none⟩ x1).setCell ⟨W.heap.size, 2, none⟩ x2) v l := by
  have hne : W.heap.size ≠ g := fun e => by have := H.lt; omega
  have hno : ¬ ok' W.heap.size := fun h => hZ _ h rfl
  have T := ((hT.set_new (p := ⟨W.heap.size, 0, none⟩) (Nat.le_refl _) x0).set_new (p := ⟨W.heap.size, 1, none⟩) (Nat.le_refl _) x1).set_new (p := ⟨W.heap.size, 2, none⟩) (Nat.le_refl _) x2
  have hA2 := ((hA.far (p := ⟨W.heap.size, 0, none⟩) hne hno x0).far (p := ⟨W.heap.size, 1, none⟩) hne hno x1).far (p := ⟨W.heap.size, 2, none⟩) hne hno x2
  have st : ∀ {w : World} (i : Nat) (x : Value), Kd.R (Kd.slice 5 (Kd.int .u8)) 22 w base (fun k => k ≠ g ∧ k ≠ W.heap.size) v l → Kd.R (Kd.slice 5 (Kd.int .u8)) 22 (w.setCell ⟨W.heap.size, i, none⟩ x) base (fun k => k ≠ g ∧ k ≠ W.heap.size) v l :=
    fun i x h => Kd.R_step h (fun k hk hl => Below.heap_setCell _ _ _ _ hk.2)
  exact ⟨hA2.mono (fun k hk _ => hok k hk) H.nok (fun k hk => H.fresh k (Nat.le_trans T.size hk)), T, Kd.R_lower (Kd.R_mono (st 2 x2 (st 1 x1 (st 0 x0 hR))) (fun k hk => hk.1)) hb⟩
theorem trim_parts {d : D} (ho : d.off = false) (hz : d.fuse = -1) (i : Bool) {n : Int} (h0 : 0 ≤ n) (h1 : n ≤ ((d.fl i).now.length : Int)) (hne : ((d.fl i).now.length : Int) ≠ n) :
    trE (iv i) n d = 0 ∧ syE (iv i) (trD (iv i) n d) = 0 ∧ syD (iv i) (trD (iv i) n d) = tcD i n d := by
  have h := trim_calm ho hz i h0 h1
  unfold trimE trimD at h
  rw [if_neg hne, if_neg hne] at h
  by_cases ht : trE (iv i) n d ≠ 0
  · rw [if_pos ht] at h
    exact absurd h.1 ht
  · rw [if_neg ht, if_neg ht] at h
    exact ⟨by simpa using ht, h.1, h.2⟩
theorem tc_same {d : D} (i : Bool) {n : Int} (h : ((d.fl i).now.length : Int) = n) : tcD i n d = d := if_pos h
theorem good_tc {d : D} (hg : Good d) (ho : d.off = false) (hz : d.fuse = -1) (i : Bool) {n : Int} (h0 : 0 ≤ n) (h1 : n ≤ ((d.fl i).now.length : Int)) : Good (tcD i n d) := by
  rw [← (trim_calm ho hz i h0 h1).2]
  exact good_trimD hg _ _ _
set_option maxHeartbeats 8000000 in
theorem rOpen.calls {ok : Nat → Prop} {g : Nat} {d : D} {W : World} (h : Dr.At g ok d W) (hg : Good d) (ho : d.off = false) (hz : d.fuse = -1) (i : Bool) (hr : d.root = iv i) (hby : ByD d) :
    Calls Try.prog 31 #[.pointer (some ⟨g, 0, none⟩)] W fun e w' => ∃ A c, e = .returned (.tuple #[.agg #[.pointer (some ⟨g, 0, none⟩), .slice none 0 0, .int .i64 0], .slice A (Jr.scanF (d.fl i).now).length c, .int .i64 0]) ∧ Dr.At g ok (openD i d) w' ∧ Tn g W w' ∧ Rs W.heap.size (fun k => k ≠ g) w' (.slice A (Jr.scanF (d.fl i).now).length c) (Jr.scanF (d.fl i).now) := by
  have H := Aside0.mk h
  have HG := Aside0.mk hg
  have HO := Aside0.mk ho
  have HZ := Aside0.mk hz
  have HBY := Aside0.mk (hby.fl i)
  have hwi := iv_not i
  have HLL := Aside0.mk (show (d.fl i).now.length ≤ 2000000 by have := (flok hg i).now; omega)
  have HSZ := Aside0.mk (sz_le (d.fl i).now)
  obtain ⟨l, hl⟩ : ∃ l, l = Jr.scanF (d.fl i).now := ⟨_, rfl⟩
  obtain ⟨n, hn⟩ : ∃ n : Nat, n = Jr.sz (Jr.scanF (d.fl i).now) := ⟨_, rfl⟩
  have HODE := Aside0.mk (show openD i d = tcD (!i) 0 (tcD i ((n : Nat) : Int) d) by rw [hn]; rfl)
  have HE := Aside0.mk (And.intro hl hn)
  rw [← hn] at HSZ
  rw [← hl]
  obtain ⟨v0, v1, v2, v3, HA, V0, V1, V2, V3⟩ := h.ex
  obtain ⟨A0, c0, rfl⟩ := Kd.V_slice V0
  obtain ⟨A2, c2, rfl⟩ := Kd.V_slice V2
  have x8 : W.cell? ⟨g, 8, none⟩ = some (.bool false) := by rw [← ho]; exact HA.cell 8
  have x0 : W.cell? ⟨g, 0, none⟩ = some (.slice A0 d.a.now.length c0) := HA.cell 0
  have x3 : W.cell? ⟨g, 3, none⟩ = some (.slice A2 d.b.now.length c2) := HA.cell 3
  have x6 : W.cell? ⟨g, 6, none⟩ = some (.int .i64 (iv i)) := by rw [← hr]; exact HA.cell 6
  have HRT := Aside0.mk hr
  have hb0 := below_alloc (Below.refl _ W) (.cells #[.pointer none, .slice none 0 0, .int .i64 0] 70)
  have a8 : (W.alloc (.cells #[.pointer none, .slice none 0 0, .int .i64 0] 70)).cell? ⟨g, 8, none⟩ = some (.bool false) := pw_cell_below hb0 x8
  obtain ⟨ODD, hodd⟩ : ∃ ODD, ODD = openD i d := ⟨_, rfl⟩
  rw [← hodd] at HODE ⊢
  have HV := Aside0.mk (And.intro V0 V2)
  clear h hg ho hz hr hby hl hn HA V0 V1 V2 V3 hodd x8
  go_enter Try.func31, Try.ntmps31
  go_wp2_with fail
  obtain ⟨W1, hW1⟩ : ∃ W1, W1 = W.alloc (.cells #[.pointer none, .slice none 0 0, .int .i64 0] 70) := ⟨_, rfl⟩
  rw [← hW1] at hb0 ⊢
  have HRB := Aside0.mk (show Blk.At W.heap.size #[.pointer none, .slice none 0 0, .int .i64 0] 70 W1 by rw [hW1]; exact Blk.At.new W _ 70)
  have HB1 := Aside0.mk hb0
  have y0 : W1.cell? ⟨g, 0, none⟩ = some (.slice A0 d.a.now.length c0) := pw_cell_below hb0 x0
  have y3 : W1.cell? ⟨g, 3, none⟩ = some (.slice A2 d.b.now.length c2) := pw_cell_below hb0 x3
  have y6 : W1.cell? ⟨g, 6, none⟩ = some (.int .i64 (iv i)) := pw_cell_below hb0 x6
  clear hb0 a8 x0 x3 x6 hW1
  cases i
  · simp only [iv, Bool.not_false, Bool.not_true] at *
    have HSC := Aside0.mk (RScan.calls (w := W1.drew) (Kd.V_below (Kd.V_below HV.out.1 HB1.out) (below_drew (Below.refl _ _))) HBY.out HLL.out)
    rw [show (Jr.sz (Jr.scanF d.a.now)) = n from HE.out.2.symm, show Jr.scanF d.a.now = l from HE.out.1.symm] at HSC
    refine start_ (n := 16) (S := fun w' => w'.cell? ⟨g, 6, none⟩ = some (.int .i64 0) ∧ w'.cell? ⟨g, 0, none⟩ = some (.slice A0 d.a.now.length c0)) (ds := []) (bl 16 0x0) (by kernel_rfl) rfl (by kernel_rfl) ⟨y6, y0⟩ (fun hHeld => ?_)
    refine pu 0 (some 14) (bl 16 0x1) ?_
    refine pu 1 (some 15) (bl 16 0x3) ?_
    refine pu 2 (some 16) (bl 16 0x7) ?_
    refine pu 3 (some 17) (bl 16 0xf) ?_
    refine pu 5 (some 19) (bl 16 0x2f) ?_
    refine pu 6 (some 20) (bl 16 0x6f) ?_
    refine tk 4 (some 18) (bl 16 0x7f) hHeld ?_
    refine pu 7 (some 21) (bl 16 0xff) ?_
    refine pu 8 (some 22) (bl 16 0x1ff) ?_
    refine tk 9 (some 23) (bl 16 0x3ff) hHeld ?_
    refine one_ (i := 10) (N := some 24) (bl 16 0x7ff) rfl rfl (by kernel_rfl) (by decide) (fun K hK => ?_)
    refine goes_ Try.func12 (by kernel_rfl) rfl #[(.slice A0 d.a.now.length c0)] (by rfl) rfl rfl (by simp only [List.map_toArray, List.map_cons, List.map_nil]; rfl) ?_
    with_reducible refine (HSC.out).mono ?_
    rintro e w3 ⟨v3, rfl, hR_, hb_⟩
    refine ⟨_, rfl, ?_⟩
    obtain ⟨A3, c3, rfl⟩ := Kd.R_slice hR_
    have HR := Aside0.mk hR_
    have HB3 := Aside0.mk ((below_drew (Below.refl W1.heap.size W1)).trans hb_)
    clear hR_ hb_
    refine hK.out _ _ ⟨pw_cell_below HB3.out y6, pw_cell_below HB3.out y0⟩ (fun hHeld => ?_)
    clear hK K
    refine norm_ (a' := ?_) ?_ ?_
    rotate_left
    · show Act.put _ (some 24) _ = _
      simp only [Act.put, List.setIfInBounds_toArray, List.set_cons_zero, List.set_cons_succ, i64_w, i32_w]
      rfl
    refine pu 11 (some 13) (bl 16 0xfff) ?_
    refine pu 12 (some 25) (bl 16 0x1fff) ?_
    refine pu 13 (some 26) (bl 16 0x3fff) ?_
    refine pu 14 (some 5) (bl 16 0x7fff) ?_
    refine pu 15 (some 6) (bl 16 0xffff) ?_
    refine done_ (by kernel_rfl) ?_
    have z6 : w3.cell? ⟨g, 6, none⟩ = some (.int .i64 0) := pw_cell_below HB3.out y6
    have zz : w3.cell? ⟨g, 0, none⟩ = some (.slice A0 d.a.now.length c0) := pw_cell_below HB3.out y0
    have HRB3 := Aside0.mk (HRB.out.below HB3.out HRB.out.lt)
    have HA3 := Aside0.mk ((H.out.skip HB1.out).below HB3.out)
    have HT3 := Aside0.mk ((Tn.of_below (g := g) HB1.out).trans (Tn.of_below HB3.out))
    have HR3 := Aside0.mk (row_tn0 (g := g) (p := W.heap.size) HR.out (show g < W1.drew.heap.size from Nat.lt_of_lt_of_le H.out.lt HB1.out.size) (show W.heap.size < W1.drew.heap.size from HRB.out.lt))
    have HBASE := Aside0.mk (show W.heap.size ≤ W1.drew.heap.size from HB1.out.size)
    have HZB := Aside0.mk (show ∀ k, (fun k => ok k ∧ (k < W.heap.size ∨ W1.heap.size ≤ k)) k → k ≠ W.heap.size from fun k hk e => by have := HRB.out.lt; have := hk.2; omega)
    obtain ⟨d1, hd1⟩ : ∃ d1, d1 = tcD false ((n : Nat) : Int) d := ⟨_, rfl⟩
    rw [← hd1] at HODE
    have hnl : n ≤ d.a.now.length := HSZ.out
    have HTP := Aside0.mk (trim_parts HO.out HZ.out false (n := (n : Int)) (Int.natCast_nonneg _) (show (n : Int) ≤ (d.a.now.length : Int) by omega))
    have HG1 := Aside0.mk (show Good d1 by rw [hd1]; exact good_tc HG.out HO.out HZ.out false (Int.natCast_nonneg _) (show (n : Int) ≤ (d.a.now.length : Int) by omega))
    have hof := tc_off false ((n : Nat) : Int) d
    rw [← hd1] at hof
    have HOF := Aside0.mk (And.intro (hof.1.trans HO.out) (And.intro (hof.2.1.trans HZ.out) (hof.2.2.trans HRT.out)))
    have HD1 := Aside0.mk hd1
    clear y0 y3 y6 HSC HRB hof hd1 HR HB3
    by_cases hc : n < d.a.now.length
    case neg =>
      have hcb : decide ((n : Int) < (d.a.now.length : Int)) = false := decide_eq_false (by omega)
      have hcb2 : decide (n < d.a.now.length) = false := decide_eq_false (by omega)
      have hdd : d = d1 := (HD1.out.trans (tc_same false (show (d.a.now.length : Int) = (n : Int) by omega))).symm
      have HA4 := Aside0.mk (show Dr.At g _ d1 w3.drew from hdd ▸ HA3.out.below (below_drew (Below.refl _ _)))
      have HT4 := Aside0.mk (HT3.out.drew)
      have HR4 := Aside0.mk (row_tn HR3.out (Tn.drew (Tn.refl g w3)))
      have HRB4 := Aside0.mk (show Blk.At W.heap.size #[.pointer none, .slice none 0 0, .int .i64 0] 70 w3.drew from HRB3.out)
      clear hc hdd hnl
      go_wp2_with fail
      refine start_ (n := 13) (S := fun w' => w'.cell? ⟨g, 6, none⟩ = some (.int .i64 0) ∧ w'.cell? ⟨g, 0, none⟩ = some (.slice A0 d.a.now.length c0)) (ds := []) (bl 13 0x0) (by kernel_rfl) rfl (by kernel_rfl) ⟨z6, zz⟩ (fun hHeld => ?_)
      refine pu 0 (some 27) (bl 13 0x1) ?_
      refine pu 1 (some 28) (bl 13 0x3) ?_
      refine pu 2 (some 29) (bl 13 0x7) ?_
      refine pu 3 (some 30) (bl 13 0xf) ?_
      refine pu 4 (some 31) (bl 13 0x1f) ?_
      refine pu 6 (some 33) (bl 13 0x5f) ?_
      refine pu 7 (some 34) (bl 13 0xdf) ?_
      refine tk 5 (some 32) (bl 13 0xff) hHeld ?_
      refine pu 8 (some 35) (bl 13 0x1ff) ?_
      refine pu 9 (some 36) (bl 13 0x3ff) ?_
      refine tk 10 (some 37) (bl 13 0x7ff) hHeld ?_
      refine pu 11 (some 38) (bl 13 0xfff) ?_
      refine pu 12 (some 39) (bl 13 0x1fff) ?_
      refine done_ (by kernel_rfl) ?_
      clear z6 zz
      obtain ⟨u0, u1, u2, u3, hx, U0, U1, U2, U3⟩ := HA4.out.ex
      obtain ⟨B_, cb, rfl⟩ := Kd.V_slice U2
      have z6 : w3.drew.cell? ⟨g, 6, none⟩ = some (.int .i64 0) := (show w3.drew.cell? ⟨g, 6, none⟩ = some (.int .i64 d1.root) from hx.cell 6).trans (by rw [HOF.out.2.2])
      have zo : w3.drew.cell? ⟨g, 3, none⟩ = some (.slice B_ d1.b.now.length cb) := hx.cell 3
      have HTP2 := Aside0.mk (trim_parts HOF.out.1 HOF.out.2.1 true (n := 0) (by decide) (Int.natCast_nonneg _))
      clear hx U0 U1 U2 U3
      have hwi1 : wrap64 (1 - 0) = 1 := hwi
      have hwi2 : wrap64 1 = 1 := by unfold wrap64; decide
      by_cases hm : d1.b.now.length = 0
      case pos =>
        have hmb : decide (0 < (d1.b.now.length : Int)) = false := decide_eq_false (by omega)
        have hmb2 : decide (0 < d1.b.now.length) = false := decide_eq_false (by omega)
        have hdd : d1 = ODD := (HODE.out.trans (tc_same true (show (d1.b.now.length : Int) = 0 by omega))).symm
        have HA6 := Aside0.mk (hdd ▸ HA4.out.below (below_drew (Below.refl _ _)))
        have HT6 := Aside0.mk HT4.out.drew
        have HR6 := Aside0.mk (row_tn HR4.out (Tn.drew (Tn.refl g _)))
        have HRB6 := Aside0.mk (show Blk.At W.heap.size #[.pointer none, .slice none 0 0, .int .i64 0] 70 w3.drew.drew from HRB4.out)
        have f0 : w3.frozen? ⟨W.heap.size, 0, none⟩ = false := HRB6.out.frozen 0
        have f1 : w3.frozen? ⟨W.heap.size, 1, none⟩ = false := HRB6.out.frozen 1
        have f2 : w3.frozen? ⟨W.heap.size, 2, none⟩ = false := HRB6.out.frozen 2
        have g0 : w3.cell? ⟨W.heap.size, 0, none⟩ = some (.pointer none) := HRB6.out.cell 0
        have g1 : w3.cell? ⟨W.heap.size, 1, none⟩ = some (.slice none 0 0) := HRB6.out.cell 1
        have g2 : w3.cell? ⟨W.heap.size, 2, none⟩ = some (.int .i64 0) := HRB6.out.cell 2
        clear hdd hm
        go_wp2_with fail
        refine start_ (n := 17) (S := fun w' => w'.cell? ⟨g, 6, none⟩ = some (.int .i64 0) ∧ w'.cell? ⟨g, 3, none⟩ = some (.slice B_ d1.b.now.length cb)) (ds := []) (bl 17 0x0) (by kernel_rfl) rfl (by kernel_rfl) ⟨z6, zo⟩ (fun hHeld => ?_)
        refine pu 0 (some 55) (bl 17 0x1) ?_
        refine pu 1 (some 56) (bl 17 0x3) ?_
        refine pu 2 (some 57) (bl 17 0x7) ?_
        refine pu 3 (some 58) (bl 17 0xf) ?_
        refine pu 4 (some 59) (bl 17 0x1f) ?_
        refine pu 5 (some 60) (bl 17 0x3f) ?_
        refine pu 6 (some 61) (bl 17 0x7f) ?_
        refine pu 9 (some 64) (bl 17 0x27f) ?_
        refine pu 10 (some 65) (bl 17 0x67f) ?_
        refine tk 7 (some 62) (bl 17 0x6ff) hHeld ?_
        refine pu 8 (some 63) (bl 17 0x7ff) ?_
        refine pu 11 (some 66) (bl 17 0xfff) ?_
        refine pu 12 (some 67) (bl 17 0x1fff) ?_
        refine tk 13 (some 68) (bl 17 0x3fff) hHeld ?_
        refine pu 14 (some 69) (bl 17 0x7fff) ?_
        refine pu 15 (some 70) (bl 17 0xffff) ?_
        refine pu 16 (some 71) (bl 17 0x1ffff) ?_
        refine done_ (by kernel_rfl) ?_
        clear z6 zo
        go_wp2_with fail
        have hBF := ((HRB6.out.set 0 (.pointer (some ⟨g, 0, none⟩))).set 1 (.slice none 0 0)).set 2 (.int .i64 0)
        refine bodyPost_ret (results_row3 (ty := 70) rfl rfl (run_loadVar_row _ _ 70 70 _ _ _ hBF Try.underlying70 rfl (by kernel_rfl))) rfl ?_
        exact ⟨A3, c3, rfl, open_end HA6.out HT6.out HR6.out HBASE.out HZB.out (fun k hk => hk.1) H.out _ _ _⟩

      have hmb : decide (0 < (d1.b.now.length : Int)) = true := decide_eq_true (by omega)
      have hmb2 : decide (0 < d1.b.now.length) = true := decide_eq_true (by omega)
      have HTQ2 := Aside0.mk (HTP2.out (show (d1.b.now.length : Int) ≠ 0 by omega))
      have htr := rTruncate.calls (HA4.out.below (below_drew (Below.refl _ _))) HG1.out true 0
      have HG3 := Aside0.mk (good_trD HG1.out 1 0)
      obtain ⟨du, hdu⟩ : ∃ du, du = trD 1 0 d1 := ⟨_, rfl⟩
      simp only [iv] at htr HTQ2
      rw [HTQ2.out.1, ← hdu] at htr
      have HTR2 := Aside0.mk htr
      rw [← hdu] at HTQ2 HG3
      have hru : du.root = 0 := by rw [hdu, trD_root]; exact HOF.out.2.2
      have HRU := Aside0.mk hru
      have hs3 : syD 1 du = ODD := HTQ2.out.2.2.trans HODE.out.symm
      have HS3 := Aside0.mk hs3
      clear hm htr hdu hru hs3
      go_wp2_with fail
      refine start_ (n := 17) (S := fun w' => w'.cell? ⟨g, 6, none⟩ = some (.int .i64 0) ∧ w'.cell? ⟨g, 3, none⟩ = some (.slice B_ d1.b.now.length cb)) (ds := []) (bl 17 0x0) (by kernel_rfl) rfl (by kernel_rfl) ⟨z6, zo⟩ (fun hHeld => ?_)
      refine pu 0 (some 55) (bl 17 0x1) ?_
      refine pu 1 (some 56) (bl 17 0x3) ?_
      refine pu 2 (some 57) (bl 17 0x7) ?_
      refine pu 3 (some 58) (bl 17 0xf) ?_
      refine pu 4 (some 59) (bl 17 0x1f) ?_
      refine pu 5 (some 60) (bl 17 0x3f) ?_
      refine pu 6 (some 61) (bl 17 0x7f) ?_
      refine pu 9 (some 64) (bl 17 0x27f) ?_
      refine pu 10 (some 65) (bl 17 0x67f) ?_
      refine tk 7 (some 62) (bl 17 0x6ff) hHeld ?_
      refine pu 8 (some 63) (bl 17 0x7ff) ?_
      refine pu 11 (some 66) (bl 17 0xfff) ?_
      refine pu 12 (some 67) (bl 17 0x1fff) ?_
      refine tk 13 (some 68) (bl 17 0x3fff) hHeld ?_
      refine pu 14 (some 69) (bl 17 0x7fff) ?_
      refine pu 15 (some 70) (bl 17 0xffff) ?_
      refine pu 16 (some 71) (bl 17 0x1ffff) ?_
      refine done_ (by kernel_rfl) ?_
      have z6d : w3.drew.drew.cell? ⟨g, 6, none⟩ = some (.int .i64 0) := z6
      go_wp2_with fail
      refine HTR2.out.mono ?_
      rintro e w6 ⟨rfl, hA, hT⟩
      have q6 : w6.cell? ⟨g, 6, none⟩ = some (.int .i64 0) := by
        obtain ⟨_, _, _, _, hx, _⟩ := hA.ex
        exact (show w6.cell? ⟨g, 6, none⟩ = some (.int .i64 du.root) from hx.cell 6).trans (by rw [HRU.out])
      have hsy := rSync.calls hA HG3.out true
      simp only [iv] at hsy
      rw [HTQ2.out.2.1, HS3.out] at hsy
      have HSY2 := Aside0.mk hsy
      have HT5 := Aside0.mk (HT4.out.drew.trans hT)
      have HR5 := Aside0.mk (row_tn (row_tn HR4.out (Tn.drew (Tn.refl g _))) hT)
      have HRB5 := Aside0.mk (blk_tn (show Blk.At W.heap.size #[.pointer none, .slice none 0 0, .int .i64 0] 70 w3.drew.drew from HRB4.out) hT (fun e => by have := H.out.lt; omega))
      clear hA hT hsy HTR2 z6 zo z6d
      go_wp2_with fail
      refine HSY2.out.mono ?_
      rintro e w7 ⟨rfl, hA, hT⟩
      have HA6 := Aside0.mk hA
      have HT6 := Aside0.mk (HT5.out.trans hT)
      have HR6 := Aside0.mk (row_tn HR5.out hT)
      have HRB6 := Aside0.mk (blk_tn HRB5.out hT (fun e => by have := H.out.lt; omega))
      have f0 : w7.frozen? ⟨W.heap.size, 0, none⟩ = false := HRB6.out.frozen 0
      have f1 : w7.frozen? ⟨W.heap.size, 1, none⟩ = false := HRB6.out.frozen 1
      have f2 : w7.frozen? ⟨W.heap.size, 2, none⟩ = false := HRB6.out.frozen 2
      have g0 : w7.cell? ⟨W.heap.size, 0, none⟩ = some (.pointer none) := HRB6.out.cell 0
      have g1 : w7.cell? ⟨W.heap.size, 1, none⟩ = some (.slice none 0 0) := HRB6.out.cell 1
      have g2 : w7.cell? ⟨W.heap.size, 2, none⟩ = some (.int .i64 0) := HRB6.out.cell 2
      clear hA hT HSY2 q6
      go_wp2_with fail
      have hBF := ((HRB6.out.set 0 (.pointer (some ⟨g, 0, none⟩))).set 1 (.slice none 0 0)).set 2 (.int .i64 0)
      refine bodyPost_ret (results_row3 (ty := 70) rfl rfl (run_loadVar_row _ _ 70 70 _ _ _ hBF Try.underlying70 rfl (by kernel_rfl))) rfl ?_
      exact ⟨A3, c3, rfl, open_end HA6.out HT6.out HR6.out HBASE.out HZB.out (fun k hk => hk.1) H.out _ _ _⟩
    have hcb : decide ((n : Int) < (d.a.now.length : Int)) = true := decide_eq_true (by omega)
    have hcb2 : decide (n < d.a.now.length) = true := decide_eq_true (by omega)
    have HTQ := Aside0.mk (HTP.out (show (d.a.now.length : Int) ≠ (n : Int) by omega))
    have hA3d := HA3.out.below (below_drew (Below.refl _ w3))
    have htr := rTruncate.calls hA3d HG.out false (n : Int)
    have HG2 := Aside0.mk (good_trD HG.out 0 (n : Int))
    obtain ⟨dt, hdt⟩ : ∃ dt, dt = trD 0 (n : Int) d := ⟨_, rfl⟩
    simp only [iv] at htr HTQ
    rw [HTQ.out.1, ← hdt] at htr
    have HTR := Aside0.mk htr
    rw [← hdt] at HTQ HG2
    have hrt : dt.root = 0 := by rw [hdt, trD_root]; exact HRT.out
    have HRTt := Aside0.mk hrt
    have hs2 : syD 0 dt = d1 := HTQ.out.2.2.trans HD1.out.symm
    have HS2 := Aside0.mk hs2
    clear hc hnl hA3d htr hdt hrt hs2
    go_wp2_with fail
    refine start_ (n := 13) (S := fun w' => w'.cell? ⟨g, 6, none⟩ = some (.int .i64 0) ∧ w'.cell? ⟨g, 0, none⟩ = some (.slice A0 d.a.now.length c0)) (ds := []) (bl 13 0x0) (by kernel_rfl) rfl (by kernel_rfl) ⟨z6, zz⟩ (fun hHeld => ?_)
    refine pu 0 (some 27) (bl 13 0x1) ?_
    refine pu 1 (some 28) (bl 13 0x3) ?_
    refine pu 2 (some 29) (bl 13 0x7) ?_
    refine pu 3 (some 30) (bl 13 0xf) ?_
    refine pu 4 (some 31) (bl 13 0x1f) ?_
    refine pu 6 (some 33) (bl 13 0x5f) ?_
    refine pu 7 (some 34) (bl 13 0xdf) ?_
    refine tk 5 (some 32) (bl 13 0xff) hHeld ?_
    refine pu 8 (some 35) (bl 13 0x1ff) ?_
    refine pu 9 (some 36) (bl 13 0x3ff) ?_
    refine tk 10 (some 37) (bl 13 0x7ff) hHeld ?_
    refine pu 11 (some 38) (bl 13 0xfff) ?_
    refine pu 12 (some 39) (bl 13 0x1fff) ?_
    refine done_ (by kernel_rfl) ?_
    have z6d : w3.drew.cell? ⟨g, 6, none⟩ = some (.int .i64 0) := z6
    go_wp2_with fail
    refine HTR.out.mono ?_
    rintro e w4 ⟨rfl, hA, hT⟩
    have q6 : w4.cell? ⟨g, 6, none⟩ = some (.int .i64 0) := by
      obtain ⟨_, _, _, _, hx, _⟩ := hA.ex
      exact (show w4.cell? ⟨g, 6, none⟩ = some (.int .i64 dt.root) from hx.cell 6).trans (by rw [HRTt.out])
    have hsy := rSync.calls hA HG2.out false
    simp only [iv] at hsy
    rw [HTQ.out.2.1, HS2.out] at hsy
    have HSY := Aside0.mk hsy
    have HT4' := Aside0.mk (HT3.out.drew.trans hT)
    have HR4' := Aside0.mk (row_tn (row_tn HR3.out (Tn.drew (Tn.refl g w3))) hT)
    have HRB4' := Aside0.mk (blk_tn (show Blk.At W.heap.size #[.pointer none, .slice none 0 0, .int .i64 0] 70 w3.drew from HRB3.out) hT (fun e => by have := H.out.lt; omega))
    clear hA hT hsy HTR z6 zz z6d
    go_wp2_with fail
    refine HSY.out.mono ?_
    rintro e w5 ⟨rfl, hA, hT⟩
    have HA4 := Aside0.mk hA
    have HT4 := Aside0.mk (HT4'.out.trans hT)
    have HR4 := Aside0.mk (row_tn HR4'.out hT)
    have HRB4 := Aside0.mk (blk_tn HRB4'.out hT (fun e => by have := H.out.lt; omega))
    clear hA hT HSY q6
    obtain ⟨u0, u1, u2, u3, hx, U0, U1, U2, U3⟩ := HA4.out.ex
    obtain ⟨B_, cb, rfl⟩ := Kd.V_slice U2
    have z6 : w5.cell? ⟨g, 6, none⟩ = some (.int .i64 0) := (show w5.cell? ⟨g, 6, none⟩ = some (.int .i64 d1.root) from hx.cell 6).trans (by rw [HOF.out.2.2])
    have zo : w5.cell? ⟨g, 3, none⟩ = some (.slice B_ d1.b.now.length cb) := hx.cell 3
    have HTP2 := Aside0.mk (trim_parts HOF.out.1 HOF.out.2.1 true (n := 0) (by decide) (Int.natCast_nonneg _))
    clear hx U0 U1 U2 U3
    have hwi1 : wrap64 (1 - 0) = 1 := hwi
    have hwi2 : wrap64 1 = 1 := by unfold wrap64; decide
    by_cases hm : d1.b.now.length = 0
    case pos =>
      have hmb : decide (0 < (d1.b.now.length : Int)) = false := decide_eq_false (by omega)
      have hmb2 : decide (0 < d1.b.now.length) = false := decide_eq_false (by omega)
      have hdd : d1 = ODD := (HODE.out.trans (tc_same true (show (d1.b.now.length : Int) = 0 by omega))).symm
      have HA6 := Aside0.mk (hdd ▸ HA4.out.below (below_drew (Below.refl _ _)))
      have HT6 := Aside0.mk HT4.out.drew
      have HR6 := Aside0.mk (row_tn HR4.out (Tn.drew (Tn.refl g _)))
      have HRB6 := Aside0.mk (show Blk.At W.heap.size #[.pointer none, .slice none 0 0, .int .i64 0] 70 w5.drew from HRB4.out)
      have f0 : w5.frozen? ⟨W.heap.size, 0, none⟩ = false := HRB6.out.frozen 0
      have f1 : w5.frozen? ⟨W.heap.size, 1, none⟩ = false := HRB6.out.frozen 1
      have f2 : w5.frozen? ⟨W.heap.size, 2, none⟩ = false := HRB6.out.frozen 2
      have g0 : w5.cell? ⟨W.heap.size, 0, none⟩ = some (.pointer none) := HRB6.out.cell 0
      have g1 : w5.cell? ⟨W.heap.size, 1, none⟩ = some (.slice none 0 0) := HRB6.out.cell 1
      have g2 : w5.cell? ⟨W.heap.size, 2, none⟩ = some (.int .i64 0) := HRB6.out.cell 2
      clear hdd hm
      go_wp2_with fail
      refine start_ (n := 17) (S := fun w' => w'.cell? ⟨g, 6, none⟩ = some (.int .i64 0) ∧ w'.cell? ⟨g, 3, none⟩ = some (.slice B_ d1.b.now.length cb)) (ds := []) (bl 17 0x0) (by kernel_rfl) rfl (by kernel_rfl) ⟨z6, zo⟩ (fun hHeld => ?_)
      refine pu 0 (some 55) (bl 17 0x1) ?_
      refine pu 1 (some 56) (bl 17 0x3) ?_
      refine pu 2 (some 57) (bl 17 0x7) ?_
      refine pu 3 (some 58) (bl 17 0xf) ?_
      refine pu 4 (some 59) (bl 17 0x1f) ?_
      refine pu 5 (some 60) (bl 17 0x3f) ?_
      refine pu 6 (some 61) (bl 17 0x7f) ?_
      refine pu 9 (some 64) (bl 17 0x27f) ?_
      refine pu 10 (some 65) (bl 17 0x67f) ?_
      refine tk 7 (some 62) (bl 17 0x6ff) hHeld ?_
      refine pu 8 (some 63) (bl 17 0x7ff) ?_
      refine pu 11 (some 66) (bl 17 0xfff) ?_
      refine pu 12 (some 67) (bl 17 0x1fff) ?_
      refine tk 13 (some 68) (bl 17 0x3fff) hHeld ?_
      refine pu 14 (some 69) (bl 17 0x7fff) ?_
      refine pu 15 (some 70) (bl 17 0xffff) ?_
      refine pu 16 (some 71) (bl 17 0x1ffff) ?_
      refine done_ (by kernel_rfl) ?_
      clear z6 zo
      go_wp2_with fail
      have hBF := ((HRB6.out.set 0 (.pointer (some ⟨g, 0, none⟩))).set 1 (.slice none 0 0)).set 2 (.int .i64 0)
      refine bodyPost_ret (results_row3 (ty := 70) rfl rfl (run_loadVar_row _ _ 70 70 _ _ _ hBF Try.underlying70 rfl (by kernel_rfl))) rfl ?_
      exact ⟨A3, c3, rfl, open_end HA6.out HT6.out HR6.out HBASE.out HZB.out (fun k hk => hk.1) H.out _ _ _⟩

    have hmb : decide (0 < (d1.b.now.length : Int)) = true := decide_eq_true (by omega)
    have hmb2 : decide (0 < d1.b.now.length) = true := decide_eq_true (by omega)
    have HTQ2 := Aside0.mk (HTP2.out (show (d1.b.now.length : Int) ≠ 0 by omega))
    have htr := rTruncate.calls (HA4.out.below (below_drew (Below.refl _ _))) HG1.out true 0
    have HG3 := Aside0.mk (good_trD HG1.out 1 0)
    obtain ⟨du, hdu⟩ : ∃ du, du = trD 1 0 d1 := ⟨_, rfl⟩
    simp only [iv] at htr HTQ2
    rw [HTQ2.out.1, ← hdu] at htr
    have HTR2 := Aside0.mk htr
    rw [← hdu] at HTQ2 HG3
    have hru : du.root = 0 := by rw [hdu, trD_root]; exact HOF.out.2.2
    have HRU := Aside0.mk hru
    have hs3 : syD 1 du = ODD := HTQ2.out.2.2.trans HODE.out.symm
    have HS3 := Aside0.mk hs3
    clear hm htr hdu hru hs3
    go_wp2_with fail
    refine start_ (n := 17) (S := fun w' => w'.cell? ⟨g, 6, none⟩ = some (.int .i64 0) ∧ w'.cell? ⟨g, 3, none⟩ = some (.slice B_ d1.b.now.length cb)) (ds := []) (bl 17 0x0) (by kernel_rfl) rfl (by kernel_rfl) ⟨z6, zo⟩ (fun hHeld => ?_)
    refine pu 0 (some 55) (bl 17 0x1) ?_
    refine pu 1 (some 56) (bl 17 0x3) ?_
    refine pu 2 (some 57) (bl 17 0x7) ?_
    refine pu 3 (some 58) (bl 17 0xf) ?_
    refine pu 4 (some 59) (bl 17 0x1f) ?_
    refine pu 5 (some 60) (bl 17 0x3f) ?_
    refine pu 6 (some 61) (bl 17 0x7f) ?_
    refine pu 9 (some 64) (bl 17 0x27f) ?_
    refine pu 10 (some 65) (bl 17 0x67f) ?_
    refine tk 7 (some 62) (bl 17 0x6ff) hHeld ?_
    refine pu 8 (some 63) (bl 17 0x7ff) ?_
    refine pu 11 (some 66) (bl 17 0xfff) ?_
    refine pu 12 (some 67) (bl 17 0x1fff) ?_
    refine tk 13 (some 68) (bl 17 0x3fff) hHeld ?_
    refine pu 14 (some 69) (bl 17 0x7fff) ?_
    refine pu 15 (some 70) (bl 17 0xffff) ?_
    refine pu 16 (some 71) (bl 17 0x1ffff) ?_
    refine done_ (by kernel_rfl) ?_
    have z6d : w5.drew.cell? ⟨g, 6, none⟩ = some (.int .i64 0) := z6
    go_wp2_with fail
    refine HTR2.out.mono ?_
    rintro e w6 ⟨rfl, hA, hT⟩
    have q6 : w6.cell? ⟨g, 6, none⟩ = some (.int .i64 0) := by
      obtain ⟨_, _, _, _, hx, _⟩ := hA.ex
      exact (show w6.cell? ⟨g, 6, none⟩ = some (.int .i64 du.root) from hx.cell 6).trans (by rw [HRU.out])
    have hsy := rSync.calls hA HG3.out true
    simp only [iv] at hsy
    rw [HTQ2.out.2.1, HS3.out] at hsy
    have HSY2 := Aside0.mk hsy
    have HT5 := Aside0.mk (HT4.out.drew.trans hT)
    have HR5 := Aside0.mk (row_tn (row_tn HR4.out (Tn.drew (Tn.refl g _))) hT)
    have HRB5 := Aside0.mk (blk_tn (show Blk.At W.heap.size #[.pointer none, .slice none 0 0, .int .i64 0] 70 w5.drew from HRB4.out) hT (fun e => by have := H.out.lt; omega))
    clear hA hT hsy HTR2 z6 zo z6d
    go_wp2_with fail
    refine HSY2.out.mono ?_
    rintro e w7 ⟨rfl, hA, hT⟩
    have HA6 := Aside0.mk hA
    have HT6 := Aside0.mk (HT5.out.trans hT)
    have HR6 := Aside0.mk (row_tn HR5.out hT)
    have HRB6 := Aside0.mk (blk_tn HRB5.out hT (fun e => by have := H.out.lt; omega))
    have f0 : w7.frozen? ⟨W.heap.size, 0, none⟩ = false := HRB6.out.frozen 0
    have f1 : w7.frozen? ⟨W.heap.size, 1, none⟩ = false := HRB6.out.frozen 1
    have f2 : w7.frozen? ⟨W.heap.size, 2, none⟩ = false := HRB6.out.frozen 2
    have g0 : w7.cell? ⟨W.heap.size, 0, none⟩ = some (.pointer none) := HRB6.out.cell 0
    have g1 : w7.cell? ⟨W.heap.size, 1, none⟩ = some (.slice none 0 0) := HRB6.out.cell 1
    have g2 : w7.cell? ⟨W.heap.size, 2, none⟩ = some (.int .i64 0) := HRB6.out.cell 2
    clear hA hT HSY2 q6
    go_wp2_with fail
    have hBF := ((HRB6.out.set 0 (.pointer (some ⟨g, 0, none⟩))).set 1 (.slice none 0 0)).set 2 (.int .i64 0)
    refine bodyPost_ret (results_row3 (ty := 70) rfl rfl (run_loadVar_row _ _ 70 70 _ _ _ hBF Try.underlying70 rfl (by kernel_rfl))) rfl ?_
    exact ⟨A3, c3, rfl, open_end HA6.out HT6.out HR6.out HBASE.out HZB.out (fun k hk => hk.1) H.out _ _ _⟩
  · simp only [iv, Bool.not_false, Bool.not_true] at *
    have HSC := Aside0.mk (RScan.calls (w := W1.drew) (Kd.V_below (Kd.V_below HV.out.2 HB1.out) (below_drew (Below.refl _ _))) HBY.out HLL.out)
    rw [show (Jr.sz (Jr.scanF d.b.now)) = n from HE.out.2.symm, show Jr.scanF d.b.now = l from HE.out.1.symm] at HSC
    refine start_ (n := 16) (S := fun w' => w'.cell? ⟨g, 6, none⟩ = some (.int .i64 1) ∧ w'.cell? ⟨g, 3, none⟩ = some (.slice A2 d.b.now.length c2)) (ds := []) (bl 16 0x0) (by kernel_rfl) rfl (by kernel_rfl) ⟨y6, y3⟩ (fun hHeld => ?_)
    refine pu 0 (some 14) (bl 16 0x1) ?_
    refine pu 1 (some 15) (bl 16 0x3) ?_
    refine pu 2 (some 16) (bl 16 0x7) ?_
    refine pu 3 (some 17) (bl 16 0xf) ?_
    refine pu 5 (some 19) (bl 16 0x2f) ?_
    refine pu 6 (some 20) (bl 16 0x6f) ?_
    refine tk 4 (some 18) (bl 16 0x7f) hHeld ?_
    refine pu 7 (some 21) (bl 16 0xff) ?_
    refine pu 8 (some 22) (bl 16 0x1ff) ?_
    refine tk 9 (some 23) (bl 16 0x3ff) hHeld ?_
    refine one_ (i := 10) (N := some 24) (bl 16 0x7ff) rfl rfl (by kernel_rfl) (by decide) (fun K hK => ?_)
    refine goes_ Try.func12 (by kernel_rfl) rfl #[(.slice A2 d.b.now.length c2)] (by rfl) rfl rfl (by simp only [List.map_toArray, List.map_cons, List.map_nil]; rfl) ?_
    with_reducible refine (HSC.out).mono ?_
    rintro e w3 ⟨v3, rfl, hR_, hb_⟩
    refine ⟨_, rfl, ?_⟩
    obtain ⟨A3, c3, rfl⟩ := Kd.R_slice hR_
    have HR := Aside0.mk hR_
    have HB3 := Aside0.mk ((below_drew (Below.refl W1.heap.size W1)).trans hb_)
    clear hR_ hb_
    refine hK.out _ _ ⟨pw_cell_below HB3.out y6, pw_cell_below HB3.out y3⟩ (fun hHeld => ?_)
    clear hK K
    refine norm_ (a' := ?_) ?_ ?_
    rotate_left
    · show Act.put _ (some 24) _ = _
      simp only [Act.put, List.setIfInBounds_toArray, List.set_cons_zero, List.set_cons_succ, i64_w, i32_w]
      rfl
    refine pu 11 (some 13) (bl 16 0xfff) ?_
    refine pu 12 (some 25) (bl 16 0x1fff) ?_
    refine pu 13 (some 26) (bl 16 0x3fff) ?_
    refine pu 14 (some 5) (bl 16 0x7fff) ?_
    refine pu 15 (some 6) (bl 16 0xffff) ?_
    refine done_ (by kernel_rfl) ?_
    have z6 : w3.cell? ⟨g, 6, none⟩ = some (.int .i64 1) := pw_cell_below HB3.out y6
    have zz : w3.cell? ⟨g, 3, none⟩ = some (.slice A2 d.b.now.length c2) := pw_cell_below HB3.out y3
    have HRB3 := Aside0.mk (HRB.out.below HB3.out HRB.out.lt)
    have HA3 := Aside0.mk ((H.out.skip HB1.out).below HB3.out)
    have HT3 := Aside0.mk ((Tn.of_below (g := g) HB1.out).trans (Tn.of_below HB3.out))
    have HR3 := Aside0.mk (row_tn0 (g := g) (p := W.heap.size) HR.out (show g < W1.drew.heap.size from Nat.lt_of_lt_of_le H.out.lt HB1.out.size) (show W.heap.size < W1.drew.heap.size from HRB.out.lt))
    have HBASE := Aside0.mk (show W.heap.size ≤ W1.drew.heap.size from HB1.out.size)
    have HZB := Aside0.mk (show ∀ k, (fun k => ok k ∧ (k < W.heap.size ∨ W1.heap.size ≤ k)) k → k ≠ W.heap.size from fun k hk e => by have := HRB.out.lt; have := hk.2; omega)
    obtain ⟨d1, hd1⟩ : ∃ d1, d1 = tcD true ((n : Nat) : Int) d := ⟨_, rfl⟩
    rw [← hd1] at HODE
    have hnl : n ≤ d.b.now.length := HSZ.out
    have HTP := Aside0.mk (trim_parts HO.out HZ.out true (n := (n : Int)) (Int.natCast_nonneg _) (show (n : Int) ≤ (d.b.now.length : Int) by omega))
    have HG1 := Aside0.mk (show Good d1 by rw [hd1]; exact good_tc HG.out HO.out HZ.out true (Int.natCast_nonneg _) (show (n : Int) ≤ (d.b.now.length : Int) by omega))
    have hof := tc_off true ((n : Nat) : Int) d
    rw [← hd1] at hof
    have HOF := Aside0.mk (And.intro (hof.1.trans HO.out) (And.intro (hof.2.1.trans HZ.out) (hof.2.2.trans HRT.out)))
    have HD1 := Aside0.mk hd1
    clear y0 y3 y6 HSC HRB hof hd1 HR HB3
    by_cases hc : n < d.b.now.length
    case neg =>
      have hcb : decide ((n : Int) < (d.b.now.length : Int)) = false := decide_eq_false (by omega)
      have hcb2 : decide (n < d.b.now.length) = false := decide_eq_false (by omega)
      have hdd : d = d1 := (HD1.out.trans (tc_same true (show (d.b.now.length : Int) = (n : Int) by omega))).symm
      have HA4 := Aside0.mk (show Dr.At g _ d1 w3.drew from hdd ▸ HA3.out.below (below_drew (Below.refl _ _)))
      have HT4 := Aside0.mk (HT3.out.drew)
      have HR4 := Aside0.mk (row_tn HR3.out (Tn.drew (Tn.refl g w3)))
      have HRB4 := Aside0.mk (show Blk.At W.heap.size #[.pointer none, .slice none 0 0, .int .i64 0] 70 w3.drew from HRB3.out)
      clear hc hdd hnl
      go_wp2_with fail
      refine start_ (n := 13) (S := fun w' => w'.cell? ⟨g, 6, none⟩ = some (.int .i64 1) ∧ w'.cell? ⟨g, 3, none⟩ = some (.slice A2 d.b.now.length c2)) (ds := []) (bl 13 0x0) (by kernel_rfl) rfl (by kernel_rfl) ⟨z6, zz⟩ (fun hHeld => ?_)
      refine pu 0 (some 27) (bl 13 0x1) ?_
      refine pu 1 (some 28) (bl 13 0x3) ?_
      refine pu 2 (some 29) (bl 13 0x7) ?_
      refine pu 3 (some 30) (bl 13 0xf) ?_
      refine pu 4 (some 31) (bl 13 0x1f) ?_
      refine pu 6 (some 33) (bl 13 0x5f) ?_
      refine pu 7 (some 34) (bl 13 0xdf) ?_
      refine tk 5 (some 32) (bl 13 0xff) hHeld ?_
      refine pu 8 (some 35) (bl 13 0x1ff) ?_
      refine pu 9 (some 36) (bl 13 0x3ff) ?_
      refine tk 10 (some 37) (bl 13 0x7ff) hHeld ?_
      refine pu 11 (some 38) (bl 13 0xfff) ?_
      refine pu 12 (some 39) (bl 13 0x1fff) ?_
      refine done_ (by kernel_rfl) ?_
      clear z6 zz
      obtain ⟨u0, u1, u2, u3, hx, U0, U1, U2, U3⟩ := HA4.out.ex
      obtain ⟨B_, cb, rfl⟩ := Kd.V_slice U0
      have z6 : w3.drew.cell? ⟨g, 6, none⟩ = some (.int .i64 1) := (show w3.drew.cell? ⟨g, 6, none⟩ = some (.int .i64 d1.root) from hx.cell 6).trans (by rw [HOF.out.2.2])
      have zo : w3.drew.cell? ⟨g, 0, none⟩ = some (.slice B_ d1.a.now.length cb) := hx.cell 0
      have HTP2 := Aside0.mk (trim_parts HOF.out.1 HOF.out.2.1 false (n := 0) (by decide) (Int.natCast_nonneg _))
      clear hx U0 U1 U2 U3
      have hwi1 : wrap64 (1 - 1) = 0 := hwi
      have hwi2 : wrap64 0 = 0 := by unfold wrap64; decide
      by_cases hm : d1.a.now.length = 0
      case pos =>
        have hmb : decide (0 < (d1.a.now.length : Int)) = false := decide_eq_false (by omega)
        have hmb2 : decide (0 < d1.a.now.length) = false := decide_eq_false (by omega)
        have hdd : d1 = ODD := (HODE.out.trans (tc_same false (show (d1.a.now.length : Int) = 0 by omega))).symm
        have HA6 := Aside0.mk (hdd ▸ HA4.out.below (below_drew (Below.refl _ _)))
        have HT6 := Aside0.mk HT4.out.drew
        have HR6 := Aside0.mk (row_tn HR4.out (Tn.drew (Tn.refl g _)))
        have HRB6 := Aside0.mk (show Blk.At W.heap.size #[.pointer none, .slice none 0 0, .int .i64 0] 70 w3.drew.drew from HRB4.out)
        have f0 : w3.frozen? ⟨W.heap.size, 0, none⟩ = false := HRB6.out.frozen 0
        have f1 : w3.frozen? ⟨W.heap.size, 1, none⟩ = false := HRB6.out.frozen 1
        have f2 : w3.frozen? ⟨W.heap.size, 2, none⟩ = false := HRB6.out.frozen 2
        have g0 : w3.cell? ⟨W.heap.size, 0, none⟩ = some (.pointer none) := HRB6.out.cell 0
        have g1 : w3.cell? ⟨W.heap.size, 1, none⟩ = some (.slice none 0 0) := HRB6.out.cell 1
        have g2 : w3.cell? ⟨W.heap.size, 2, none⟩ = some (.int .i64 0) := HRB6.out.cell 2
        clear hdd hm
        go_wp2_with fail
        refine start_ (n := 17) (S := fun w' => w'.cell? ⟨g, 6, none⟩ = some (.int .i64 1) ∧ w'.cell? ⟨g, 0, none⟩ = some (.slice B_ d1.a.now.length cb)) (ds := []) (bl 17 0x0) (by kernel_rfl) rfl (by kernel_rfl) ⟨z6, zo⟩ (fun hHeld => ?_)
        refine pu 0 (some 55) (bl 17 0x1) ?_
        refine pu 1 (some 56) (bl 17 0x3) ?_
        refine pu 2 (some 57) (bl 17 0x7) ?_
        refine pu 3 (some 58) (bl 17 0xf) ?_
        refine pu 4 (some 59) (bl 17 0x1f) ?_
        refine pu 5 (some 60) (bl 17 0x3f) ?_
        refine pu 6 (some 61) (bl 17 0x7f) ?_
        refine pu 9 (some 64) (bl 17 0x27f) ?_
        refine pu 10 (some 65) (bl 17 0x67f) ?_
        refine tk 7 (some 62) (bl 17 0x6ff) hHeld ?_
        refine pu 8 (some 63) (bl 17 0x7ff) ?_
        refine pu 11 (some 66) (bl 17 0xfff) ?_
        refine pu 12 (some 67) (bl 17 0x1fff) ?_
        refine tk 13 (some 68) (bl 17 0x3fff) hHeld ?_
        refine pu 14 (some 69) (bl 17 0x7fff) ?_
        refine pu 15 (some 70) (bl 17 0xffff) ?_
        refine pu 16 (some 71) (bl 17 0x1ffff) ?_
        refine done_ (by kernel_rfl) ?_
        clear z6 zo
        go_wp2_with fail
        have hBF := ((HRB6.out.set 0 (.pointer (some ⟨g, 0, none⟩))).set 1 (.slice none 0 0)).set 2 (.int .i64 0)
        refine bodyPost_ret (results_row3 (ty := 70) rfl rfl (run_loadVar_row _ _ 70 70 _ _ _ hBF Try.underlying70 rfl (by kernel_rfl))) rfl ?_
        exact ⟨A3, c3, rfl, open_end HA6.out HT6.out HR6.out HBASE.out HZB.out (fun k hk => hk.1) H.out _ _ _⟩

      have hmb : decide (0 < (d1.a.now.length : Int)) = true := decide_eq_true (by omega)
      have hmb2 : decide (0 < d1.a.now.length) = true := decide_eq_true (by omega)
      have HTQ2 := Aside0.mk (HTP2.out (show (d1.a.now.length : Int) ≠ 0 by omega))
      have htr := rTruncate.calls (HA4.out.below (below_drew (Below.refl _ _))) HG1.out false 0
      have HG3 := Aside0.mk (good_trD HG1.out 0 0)
      obtain ⟨du, hdu⟩ : ∃ du, du = trD 0 0 d1 := ⟨_, rfl⟩
      simp only [iv] at htr HTQ2
      rw [HTQ2.out.1, ← hdu] at htr
      have HTR2 := Aside0.mk htr
      rw [← hdu] at HTQ2 HG3
      have hru : du.root = 1 := by rw [hdu, trD_root]; exact HOF.out.2.2
      have HRU := Aside0.mk hru
      have hs3 : syD 0 du = ODD := HTQ2.out.2.2.trans HODE.out.symm
      have HS3 := Aside0.mk hs3
      clear hm htr hdu hru hs3
      go_wp2_with fail
      refine start_ (n := 17) (S := fun w' => w'.cell? ⟨g, 6, none⟩ = some (.int .i64 1) ∧ w'.cell? ⟨g, 0, none⟩ = some (.slice B_ d1.a.now.length cb)) (ds := []) (bl 17 0x0) (by kernel_rfl) rfl (by kernel_rfl) ⟨z6, zo⟩ (fun hHeld => ?_)
      refine pu 0 (some 55) (bl 17 0x1) ?_
      refine pu 1 (some 56) (bl 17 0x3) ?_
      refine pu 2 (some 57) (bl 17 0x7) ?_
      refine pu 3 (some 58) (bl 17 0xf) ?_
      refine pu 4 (some 59) (bl 17 0x1f) ?_
      refine pu 5 (some 60) (bl 17 0x3f) ?_
      refine pu 6 (some 61) (bl 17 0x7f) ?_
      refine pu 9 (some 64) (bl 17 0x27f) ?_
      refine pu 10 (some 65) (bl 17 0x67f) ?_
      refine tk 7 (some 62) (bl 17 0x6ff) hHeld ?_
      refine pu 8 (some 63) (bl 17 0x7ff) ?_
      refine pu 11 (some 66) (bl 17 0xfff) ?_
      refine pu 12 (some 67) (bl 17 0x1fff) ?_
      refine tk 13 (some 68) (bl 17 0x3fff) hHeld ?_
      refine pu 14 (some 69) (bl 17 0x7fff) ?_
      refine pu 15 (some 70) (bl 17 0xffff) ?_
      refine pu 16 (some 71) (bl 17 0x1ffff) ?_
      refine done_ (by kernel_rfl) ?_
      have z6d : w3.drew.drew.cell? ⟨g, 6, none⟩ = some (.int .i64 1) := z6
      go_wp2_with fail
      refine HTR2.out.mono ?_
      rintro e w6 ⟨rfl, hA, hT⟩
      have q6 : w6.cell? ⟨g, 6, none⟩ = some (.int .i64 1) := by
        obtain ⟨_, _, _, _, hx, _⟩ := hA.ex
        exact (show w6.cell? ⟨g, 6, none⟩ = some (.int .i64 du.root) from hx.cell 6).trans (by rw [HRU.out])
      have hsy := rSync.calls hA HG3.out false
      simp only [iv] at hsy
      rw [HTQ2.out.2.1, HS3.out] at hsy
      have HSY2 := Aside0.mk hsy
      have HT5 := Aside0.mk (HT4.out.drew.trans hT)
      have HR5 := Aside0.mk (row_tn (row_tn HR4.out (Tn.drew (Tn.refl g _))) hT)
      have HRB5 := Aside0.mk (blk_tn (show Blk.At W.heap.size #[.pointer none, .slice none 0 0, .int .i64 0] 70 w3.drew.drew from HRB4.out) hT (fun e => by have := H.out.lt; omega))
      clear hA hT hsy HTR2 z6 zo z6d
      go_wp2_with fail
      refine HSY2.out.mono ?_
      rintro e w7 ⟨rfl, hA, hT⟩
      have HA6 := Aside0.mk hA
      have HT6 := Aside0.mk (HT5.out.trans hT)
      have HR6 := Aside0.mk (row_tn HR5.out hT)
      have HRB6 := Aside0.mk (blk_tn HRB5.out hT (fun e => by have := H.out.lt; omega))
      have f0 : w7.frozen? ⟨W.heap.size, 0, none⟩ = false := HRB6.out.frozen 0
      have f1 : w7.frozen? ⟨W.heap.size, 1, none⟩ = false := HRB6.out.frozen 1
      have f2 : w7.frozen? ⟨W.heap.size, 2, none⟩ = false := HRB6.out.frozen 2
      have g0 : w7.cell? ⟨W.heap.size, 0, none⟩ = some (.pointer none) := HRB6.out.cell 0
      have g1 : w7.cell? ⟨W.heap.size, 1, none⟩ = some (.slice none 0 0) := HRB6.out.cell 1
      have g2 : w7.cell? ⟨W.heap.size, 2, none⟩ = some (.int .i64 0) := HRB6.out.cell 2
      clear hA hT HSY2 q6
      go_wp2_with fail
      have hBF := ((HRB6.out.set 0 (.pointer (some ⟨g, 0, none⟩))).set 1 (.slice none 0 0)).set 2 (.int .i64 0)
      refine bodyPost_ret (results_row3 (ty := 70) rfl rfl (run_loadVar_row _ _ 70 70 _ _ _ hBF Try.underlying70 rfl (by kernel_rfl))) rfl ?_
      exact ⟨A3, c3, rfl, open_end HA6.out HT6.out HR6.out HBASE.out HZB.out (fun k hk => hk.1) H.out _ _ _⟩
    have hcb : decide ((n : Int) < (d.b.now.length : Int)) = true := decide_eq_true (by omega)
    have hcb2 : decide (n < d.b.now.length) = true := decide_eq_true (by omega)
    have HTQ := Aside0.mk (HTP.out (show (d.b.now.length : Int) ≠ (n : Int) by omega))
    have hA3d := HA3.out.below (below_drew (Below.refl _ w3))
    have htr := rTruncate.calls hA3d HG.out true (n : Int)
    have HG2 := Aside0.mk (good_trD HG.out 1 (n : Int))
    obtain ⟨dt, hdt⟩ : ∃ dt, dt = trD 1 (n : Int) d := ⟨_, rfl⟩
    simp only [iv] at htr HTQ
    rw [HTQ.out.1, ← hdt] at htr
    have HTR := Aside0.mk htr
    rw [← hdt] at HTQ HG2
    have hrt : dt.root = 1 := by rw [hdt, trD_root]; exact HRT.out
    have HRTt := Aside0.mk hrt
    have hs2 : syD 1 dt = d1 := HTQ.out.2.2.trans HD1.out.symm
    have HS2 := Aside0.mk hs2
    clear hc hnl hA3d htr hdt hrt hs2
    go_wp2_with fail
    refine start_ (n := 13) (S := fun w' => w'.cell? ⟨g, 6, none⟩ = some (.int .i64 1) ∧ w'.cell? ⟨g, 3, none⟩ = some (.slice A2 d.b.now.length c2)) (ds := []) (bl 13 0x0) (by kernel_rfl) rfl (by kernel_rfl) ⟨z6, zz⟩ (fun hHeld => ?_)
    refine pu 0 (some 27) (bl 13 0x1) ?_
    refine pu 1 (some 28) (bl 13 0x3) ?_
    refine pu 2 (some 29) (bl 13 0x7) ?_
    refine pu 3 (some 30) (bl 13 0xf) ?_
    refine pu 4 (some 31) (bl 13 0x1f) ?_
    refine pu 6 (some 33) (bl 13 0x5f) ?_
    refine pu 7 (some 34) (bl 13 0xdf) ?_
    refine tk 5 (some 32) (bl 13 0xff) hHeld ?_
    refine pu 8 (some 35) (bl 13 0x1ff) ?_
    refine pu 9 (some 36) (bl 13 0x3ff) ?_
    refine tk 10 (some 37) (bl 13 0x7ff) hHeld ?_
    refine pu 11 (some 38) (bl 13 0xfff) ?_
    refine pu 12 (some 39) (bl 13 0x1fff) ?_
    refine done_ (by kernel_rfl) ?_
    have z6d : w3.drew.cell? ⟨g, 6, none⟩ = some (.int .i64 1) := z6
    go_wp2_with fail
    refine HTR.out.mono ?_
    rintro e w4 ⟨rfl, hA, hT⟩
    have q6 : w4.cell? ⟨g, 6, none⟩ = some (.int .i64 1) := by
      obtain ⟨_, _, _, _, hx, _⟩ := hA.ex
      exact (show w4.cell? ⟨g, 6, none⟩ = some (.int .i64 dt.root) from hx.cell 6).trans (by rw [HRTt.out])
    have hsy := rSync.calls hA HG2.out true
    simp only [iv] at hsy
    rw [HTQ.out.2.1, HS2.out] at hsy
    have HSY := Aside0.mk hsy
    have HT4' := Aside0.mk (HT3.out.drew.trans hT)
    have HR4' := Aside0.mk (row_tn (row_tn HR3.out (Tn.drew (Tn.refl g w3))) hT)
    have HRB4' := Aside0.mk (blk_tn (show Blk.At W.heap.size #[.pointer none, .slice none 0 0, .int .i64 0] 70 w3.drew from HRB3.out) hT (fun e => by have := H.out.lt; omega))
    clear hA hT hsy HTR z6 zz z6d
    go_wp2_with fail
    refine HSY.out.mono ?_
    rintro e w5 ⟨rfl, hA, hT⟩
    have HA4 := Aside0.mk hA
    have HT4 := Aside0.mk (HT4'.out.trans hT)
    have HR4 := Aside0.mk (row_tn HR4'.out hT)
    have HRB4 := Aside0.mk (blk_tn HRB4'.out hT (fun e => by have := H.out.lt; omega))
    clear hA hT HSY q6
    obtain ⟨u0, u1, u2, u3, hx, U0, U1, U2, U3⟩ := HA4.out.ex
    obtain ⟨B_, cb, rfl⟩ := Kd.V_slice U0
    have z6 : w5.cell? ⟨g, 6, none⟩ = some (.int .i64 1) := (show w5.cell? ⟨g, 6, none⟩ = some (.int .i64 d1.root) from hx.cell 6).trans (by rw [HOF.out.2.2])
    have zo : w5.cell? ⟨g, 0, none⟩ = some (.slice B_ d1.a.now.length cb) := hx.cell 0
    have HTP2 := Aside0.mk (trim_parts HOF.out.1 HOF.out.2.1 false (n := 0) (by decide) (Int.natCast_nonneg _))
    clear hx U0 U1 U2 U3
    have hwi1 : wrap64 (1 - 1) = 0 := hwi
    have hwi2 : wrap64 0 = 0 := by unfold wrap64; decide
    by_cases hm : d1.a.now.length = 0
    case pos =>
      have hmb : decide (0 < (d1.a.now.length : Int)) = false := decide_eq_false (by omega)
      have hmb2 : decide (0 < d1.a.now.length) = false := decide_eq_false (by omega)
      have hdd : d1 = ODD := (HODE.out.trans (tc_same false (show (d1.a.now.length : Int) = 0 by omega))).symm
      have HA6 := Aside0.mk (hdd ▸ HA4.out.below (below_drew (Below.refl _ _)))
      have HT6 := Aside0.mk HT4.out.drew
      have HR6 := Aside0.mk (row_tn HR4.out (Tn.drew (Tn.refl g _)))
      have HRB6 := Aside0.mk (show Blk.At W.heap.size #[.pointer none, .slice none 0 0, .int .i64 0] 70 w5.drew from HRB4.out)
      have f0 : w5.frozen? ⟨W.heap.size, 0, none⟩ = false := HRB6.out.frozen 0
      have f1 : w5.frozen? ⟨W.heap.size, 1, none⟩ = false := HRB6.out.frozen 1
      have f2 : w5.frozen? ⟨W.heap.size, 2, none⟩ = false := HRB6.out.frozen 2
      have g0 : w5.cell? ⟨W.heap.size, 0, none⟩ = some (.pointer none) := HRB6.out.cell 0
      have g1 : w5.cell? ⟨W.heap.size, 1, none⟩ = some (.slice none 0 0) := HRB6.out.cell 1
      have g2 : w5.cell? ⟨W.heap.size, 2, none⟩ = some (.int .i64 0) := HRB6.out.cell 2
      clear hdd hm
      go_wp2_with fail
      refine start_ (n := 17) (S := fun w' => w'.cell? ⟨g, 6, none⟩ = some (.int .i64 1) ∧ w'.cell? ⟨g, 0, none⟩ = some (.slice B_ d1.a.now.length cb)) (ds := []) (bl 17 0x0) (by kernel_rfl) rfl (by kernel_rfl) ⟨z6, zo⟩ (fun hHeld => ?_)
      refine pu 0 (some 55) (bl 17 0x1) ?_
      refine pu 1 (some 56) (bl 17 0x3) ?_
      refine pu 2 (some 57) (bl 17 0x7) ?_
      refine pu 3 (some 58) (bl 17 0xf) ?_
      refine pu 4 (some 59) (bl 17 0x1f) ?_
      refine pu 5 (some 60) (bl 17 0x3f) ?_
      refine pu 6 (some 61) (bl 17 0x7f) ?_
      refine pu 9 (some 64) (bl 17 0x27f) ?_
      refine pu 10 (some 65) (bl 17 0x67f) ?_
      refine tk 7 (some 62) (bl 17 0x6ff) hHeld ?_
      refine pu 8 (some 63) (bl 17 0x7ff) ?_
      refine pu 11 (some 66) (bl 17 0xfff) ?_
      refine pu 12 (some 67) (bl 17 0x1fff) ?_
      refine tk 13 (some 68) (bl 17 0x3fff) hHeld ?_
      refine pu 14 (some 69) (bl 17 0x7fff) ?_
      refine pu 15 (some 70) (bl 17 0xffff) ?_
      refine pu 16 (some 71) (bl 17 0x1ffff) ?_
      refine done_ (by kernel_rfl) ?_
      clear z6 zo
      go_wp2_with fail
      have hBF := ((HRB6.out.set 0 (.pointer (some ⟨g, 0, none⟩))).set 1 (.slice none 0 0)).set 2 (.int .i64 0)
      refine bodyPost_ret (results_row3 (ty := 70) rfl rfl (run_loadVar_row _ _ 70 70 _ _ _ hBF Try.underlying70 rfl (by kernel_rfl))) rfl ?_
      exact ⟨A3, c3, rfl, open_end HA6.out HT6.out HR6.out HBASE.out HZB.out (fun k hk => hk.1) H.out _ _ _⟩

    have hmb : decide (0 < (d1.a.now.length : Int)) = true := decide_eq_true (by omega)
    have hmb2 : decide (0 < d1.a.now.length) = true := decide_eq_true (by omega)
    have HTQ2 := Aside0.mk (HTP2.out (show (d1.a.now.length : Int) ≠ 0 by omega))
    have htr := rTruncate.calls (HA4.out.below (below_drew (Below.refl _ _))) HG1.out false 0
    have HG3 := Aside0.mk (good_trD HG1.out 0 0)
    obtain ⟨du, hdu⟩ : ∃ du, du = trD 0 0 d1 := ⟨_, rfl⟩
    simp only [iv] at htr HTQ2
    rw [HTQ2.out.1, ← hdu] at htr
    have HTR2 := Aside0.mk htr
    rw [← hdu] at HTQ2 HG3
    have hru : du.root = 1 := by rw [hdu, trD_root]; exact HOF.out.2.2
    have HRU := Aside0.mk hru
    have hs3 : syD 0 du = ODD := HTQ2.out.2.2.trans HODE.out.symm
    have HS3 := Aside0.mk hs3
    clear hm htr hdu hru hs3
    go_wp2_with fail
    refine start_ (n := 17) (S := fun w' => w'.cell? ⟨g, 6, none⟩ = some (.int .i64 1) ∧ w'.cell? ⟨g, 0, none⟩ = some (.slice B_ d1.a.now.length cb)) (ds := []) (bl 17 0x0) (by kernel_rfl) rfl (by kernel_rfl) ⟨z6, zo⟩ (fun hHeld => ?_)
    refine pu 0 (some 55) (bl 17 0x1) ?_
    refine pu 1 (some 56) (bl 17 0x3) ?_
    refine pu 2 (some 57) (bl 17 0x7) ?_
    refine pu 3 (some 58) (bl 17 0xf) ?_
    refine pu 4 (some 59) (bl 17 0x1f) ?_
    refine pu 5 (some 60) (bl 17 0x3f) ?_
    refine pu 6 (some 61) (bl 17 0x7f) ?_
    refine pu 9 (some 64) (bl 17 0x27f) ?_
    refine pu 10 (some 65) (bl 17 0x67f) ?_
    refine tk 7 (some 62) (bl 17 0x6ff) hHeld ?_
    refine pu 8 (some 63) (bl 17 0x7ff) ?_
    refine pu 11 (some 66) (bl 17 0xfff) ?_
    refine pu 12 (some 67) (bl 17 0x1fff) ?_
    refine tk 13 (some 68) (bl 17 0x3fff) hHeld ?_
    refine pu 14 (some 69) (bl 17 0x7fff) ?_
    refine pu 15 (some 70) (bl 17 0xffff) ?_
    refine pu 16 (some 71) (bl 17 0x1ffff) ?_
    refine done_ (by kernel_rfl) ?_
    have z6d : w5.drew.cell? ⟨g, 6, none⟩ = some (.int .i64 1) := z6
    go_wp2_with fail
    refine HTR2.out.mono ?_
    rintro e w6 ⟨rfl, hA, hT⟩
    have q6 : w6.cell? ⟨g, 6, none⟩ = some (.int .i64 1) := by
      obtain ⟨_, _, _, _, hx, _⟩ := hA.ex
      exact (show w6.cell? ⟨g, 6, none⟩ = some (.int .i64 du.root) from hx.cell 6).trans (by rw [HRU.out])
    have hsy := rSync.calls hA HG3.out false
    simp only [iv] at hsy
    rw [HTQ2.out.2.1, HS3.out] at hsy
    have HSY2 := Aside0.mk hsy
    have HT5 := Aside0.mk (HT4.out.drew.trans hT)
    have HR5 := Aside0.mk (row_tn (row_tn HR4.out (Tn.drew (Tn.refl g _))) hT)
    have HRB5 := Aside0.mk (blk_tn (show Blk.At W.heap.size #[.pointer none, .slice none 0 0, .int .i64 0] 70 w5.drew from HRB4.out) hT (fun e => by have := H.out.lt; omega))
    clear hA hT hsy HTR2 z6 zo z6d
    go_wp2_with fail
    refine HSY2.out.mono ?_
    rintro e w7 ⟨rfl, hA, hT⟩
    have HA6 := Aside0.mk hA
    have HT6 := Aside0.mk (HT5.out.trans hT)
    have HR6 := Aside0.mk (row_tn HR5.out hT)
    have HRB6 := Aside0.mk (blk_tn HRB5.out hT (fun e => by have := H.out.lt; omega))
    have f0 : w7.frozen? ⟨W.heap.size, 0, none⟩ = false := HRB6.out.frozen 0
    have f1 : w7.frozen? ⟨W.heap.size, 1, none⟩ = false := HRB6.out.frozen 1
    have f2 : w7.frozen? ⟨W.heap.size, 2, none⟩ = false := HRB6.out.frozen 2
    have g0 : w7.cell? ⟨W.heap.size, 0, none⟩ = some (.pointer none) := HRB6.out.cell 0
    have g1 : w7.cell? ⟨W.heap.size, 1, none⟩ = some (.slice none 0 0) := HRB6.out.cell 1
    have g2 : w7.cell? ⟨W.heap.size, 2, none⟩ = some (.int .i64 0) := HRB6.out.cell 2
    clear hA hT HSY2 q6
    go_wp2_with fail
    have hBF := ((HRB6.out.set 0 (.pointer (some ⟨g, 0, none⟩))).set 1 (.slice none 0 0)).set 2 (.int .i64 0)
    refine bodyPost_ret (results_row3 (ty := 70) rfl rfl (run_loadVar_row _ _ 70 70 _ _ _ hBF Try.underlying70 rfl (by kernel_rfl))) rfl ?_
    exact ⟨A3, c3, rfl, open_end HA6.out HT6.out HR6.out HBASE.out HZB.out (fun k hk => hk.1) H.out _ _ _⟩
end Go.Proofs.Ytdlfabbhdelinaa.Q
