/- The law of the waits, walked. No condition but those typed. -/
import Derived.Test.YtomkjakffpomdaaSw6
namespace Go.Proofs.Ytomkjakffpomdaa.Q
open Go.RowKit Go.Maps Go.Sort Go.Shelf Go.Proofs.YtomkjakffpomdaaW.PrintWords Go.Proofs.YtomkjakffpomdaaW.PrintLast Go.Proofs.YtomkjakffpomdaaW.PrintMore
attribute [local go_sem] max2_int min2_int max_two min_two max_three min_three max_four min_four   -- for this text's walks alone
set_option linter.unusedVariables false
set_option linter.unusedSimpArgs false
set_option maxRecDepth 100000
/-- The wait behind n failures; none, ahead of the first. -/
def lw (n : Nat) : Int := if n = 0 then 0 else wt n
theorem lw_succ (n : Nat) : lw (n + 1) = wt ((n : Int) + 1) := by
  unfold lw
  rw [if_neg (Nat.succ_ne_zero n)]
  rfl
theorem lw_at (n : Nat) : 0 ≤ lw n ∧ lw n ≤ wt ((n : Int) + 1) ∧ 60 ≤ wt ((n : Int) + 1) ∧ wt ((n : Int) + 1) ≤ 86400 := by
  have h1 := wt_at (n := (n : Int) + 1) (by omega)
  unfold lw
  split
  · omega
  · have h2 := wt_at (n := (n : Int)) (by omega)
    have h3 := wt_up (n := (n : Int)) (by omega)
    omega
theorem w_due {t d : Int} (h : 0 ≤ t ∧ t ≤ d) (hd : d ≤ 1099511627776) : ltr t d = d := by
  unfold ltr
  rw [if_pos hd]
  split <;> omega
theorem dueF_now (d n : Int) : dueF d ⟨d, n, -1⟩ = true := by simp [dueF]
theorem dn_now {d : Int} {n : Nat} (h : d + 86400 ≤ 1099511627776) : dnF d false (tkF d ⟨d, n, -1⟩) = ⟨d + wt ((n : Int) + 1), ((n + 1 : Nat) : Int), -1⟩ := by
  have := lw_at n
  unfold dnF tkF capT
  simp
  omega
theorem dn_good {d n : Int} (h : d + 86400 ≤ 1099511627776) : dnF d true (tkF d ⟨d, n, -1⟩) = ⟨d + 600, 0, -1⟩ := by
  unfold dnF tkF capT
  simp
  omega
/-- What the law knows behind n rounds. -/
structure Wt (B n : Nat) (now t d : Int) (w0 w : World) : Prop where
  pa : PA B 1 (B + 1) B t (sg ⟨d, n, -1⟩) w
  t0 : 0 ≤ t ∧ t ≤ d
  d1 : d ≤ now + n * 86400
  low : Below B w0 w
  size : B ≤ w.heap.size
theorem wt_room {now d : Int} {n : Nat} (h : d ≤ now + n * 86400) (hn : n ≤ 40) (hw : now ≤ 549755813888) : d + 86400 ≤ 1099511627776 := by omega
theorem wt_next {now d : Int} {n : Nat} (h : d ≤ now + n * 86400) : d + wt ((n : Int) + 1) ≤ now + ((n + 1 : Nat) : Int) * 86400 := by
  have := lw_at n
  omega
set_option maxHeartbeats 8000000 in
theorem law_Waits.calls {w : World} {fl : Int} (hf : 0 ≤ fl ∧ fl < 256) {now : Int} (hw : -9223372036854775808 ≤ now ∧ now < 9223372036854775808) :
    Calls Try.prog 3 #[.int .u8 fl, .int .i64 now] w fun e w' => e = .returned (.bool true) ∧ Below w.heap.size w w' := by
  have hN := p_New.calls w 0
  obtain ⟨B, hBe⟩ : ∃ B, B = w.heap.size := ⟨_, rfl⟩
  rw [← hBe] at hN ⊢
  have HBE := Aside0.mk hBe
  clear hBe hw
  have hcv : IntKind.i64.wrap fl = fl := by simp [IntKind.wrap, IntKind.bits, IntKind.signed]; omega
  obtain ⟨q, hq⟩ : ∃ q : Nat, Int.tmod fl 40 = q ∧ q ≤ 39 := by
    have h1 := Int.tmod_nonneg 40 hf.1
    have h2 := Int.tmod_lt_of_pos fl (b := 40) (by decide)
    exact ⟨(Int.tmod fl 40).toNat, by omega, by omega⟩
  obtain ⟨hq, hq39⟩ := hq
  have HQ := Aside0.mk hq39
  clear hf hq39
  by_cases hbad : now < 0 ∨ 549755813888 < now
  · by_cases hneg : now < 0
    · go_enter Try.func3, Try.ntmps3
      go_wp2_with fail
      refine hN.mono ?_
      rintro e w1 ⟨rfl, hP, hb⟩
      have HB1 := Aside0.mk (show Below B w w1 ∧ B ≤ w1.heap.size from ⟨hb, HBE.out ▸ hb.size⟩)
      clear hP hb hN hbad
      go_wp2_with fail
      refine (law_alive.calls _).mono ?_
      rintro e w3 ⟨rfl, hb⟩
      have HB3 := Aside0.mk (HB1.out.1.trans (hb.mono HB1.out.2))
      clear hb
      go_wp2_with fail
      go_ret
      exact ⟨rfl, HB3.out⟩
    · have hbig : 549755813888 < now := by omega
      go_enter Try.func3, Try.ntmps3
      go_wp2_with fail
      refine hN.mono ?_
      rintro e w1 ⟨rfl, hP, hb⟩
      have HB1 := Aside0.mk (show Below B w w1 ∧ B ≤ w1.heap.size from ⟨hb, HBE.out ▸ hb.size⟩)
      clear hP hb hN hbad
      go_wp2_with fail
      refine (law_alive.calls _).mono ?_
      rintro e w3 ⟨rfl, hb⟩
      have HB3 := Aside0.mk (HB1.out.1.trans (hb.mono HB1.out.2))
      clear hb
      go_wp2_with fail
      go_ret
      exact ⟨rfl, HB3.out⟩
  have hn0 : ¬ now < 0 := by omega
  have hn1 : ¬ 549755813888 < now := by omega
  have HNW := Aside0.mk (show 0 ≤ now ∧ now ≤ 549755813888 from by omega)
  clear hbad
  go_enter Try.func3, Try.ntmps3
  go_wp2_with fail
  refine hN.mono ?_
  rintro e w1 ⟨rfl, hP, hb⟩
  have HB1 := Aside0.mk (show Below B w w1 ∧ B ≤ w1.heap.size from ⟨hb, HBE.out ▸ hb.size⟩)
  have hb2 := below_alloc (Below.refl _ w1) (.cells #[.string aS] 9)
  have hA2 := Blk.At.new w1 #[.string aS] 9
  have hSy := p_Sync.calls (hP.below hb2) now (C_one_kp hA2) (c := 1) (us := [aS]) (by intro u hu; rw [List.mem_singleton.1 hu]; exact aS_size) (by simp)
  have HB2 := Aside0.mk (show Below B w (w1.alloc (.cells #[.string aS] 9)) from HB1.out.1.trans (hb2.mono HB1.out.2))
  rw [w_due (by have := HNW.out; omega) (by have := HNW.out; omega), sg_count, sg_sync] at hSy
  have HSY := Aside0.mk hSy
  clear hP hb hb2 hA2 hSy hN
  go_wp2_with fail
  refine HSY.out.mono ?_
  rintro e w3 ⟨rfl, hP, hK⟩
  have HW0 := Aside0.mk (show Wt B 0 now now now w w3 from ⟨hP, ⟨HNW.out.1, Int.le_refl _⟩, by simp, hK.base HB2.out (by rw [HBE.out]; exact HB2.out.size), by rw [HBE.out]; exact (hK.base HB2.out (by rw [HBE.out]; exact HB2.out.size)).size⟩)
  clear hP hK HSY HB2 HB1
  go_wp2_with fail
  go_loopw [6, 43] (fun l j wr => ∃ (n : Nat) (t d : Int), n ≤ q ∧ l = .int .i64 (lw n) ∧ j = .int .i64 n ∧ Aside0 (Wt B n now t d w wr)) (fun _ j _ => q - (intOf j).toNat)
  case atStart => exact ⟨0, now, now, Nat.zero_le _, rfl, rfl, HW0⟩
  case round =>
    clear HW0
    obtain ⟨n, t, d, hn, rfl, rfl, HW⟩ := hrel
    by_cases hlt : n < q
    · have hroom := wt_room HW.out.d1 (by have := HQ.out; omega) HNW.out.2
      have HDU := Aside0.mk (p_Due.calls HW.out.pa aS_size (sg_at _))
      have hTk := take_sg HW.out.pa (by simp) d 1 (by decide) HW.out.size
      rw [w_due HW.out.t0 (by omega), dueF_now] at hTk
      have HTK := Aside0.mk hTk
      have HRM := Aside0.mk hroom
      have HLT := Aside0.mk hlt
      have en : wrap64 ((n : Int) + 1) = ((n + 1 : Nat) : Int) := w64n (by have := HQ.out; omega)
      clear hTk hroom
      go_wp2_with fail
      refine HDU.out.mono ?_
      rintro e w4 ⟨rfl, rfl⟩
      go_wp2_with fail
      refine HTK.out.mono ?_
      rintro e w5 ⟨v5, rfl, hL, hP, hK⟩
      simp only [if_true] at hL hP
      obtain ⟨A5, c5, rfl⟩ := Kd.R_slice hL
      have HB5 := Aside0.mk (show Below B w w5 ∧ B ≤ w5.heap.size from ⟨hK.base HW.out.low HW.out.size, Nat.le_trans HW.out.size hK.size⟩)
      have hDn := p_Done2.calls hP d aS_size false (sg_at _) (by show 0 ≤ d; have := HW.out.t0; omega) (by have := HW.out.t0; have := HRM.out; omega) (by show 0 ≤ (n : Int) ∧ (n : Int) < 1000000; have := HQ.out; omega)
      rw [ltr_self, sg_upd, dn_now HRM.out] at hDn
      have HDN := Aside0.mk hDn
      clear hL hP hK hDn HTK HDU
      go_wp2_with fail
      refine HDN.out.mono ?_
      rintro e w6 ⟨rfl, hP, hK⟩
      have HW6 := Aside0.mk (show Wt B (n + 1) now d (d + wt ((n : Int) + 1)) w w6 from ⟨hP, by have := HW.out.t0; have := lw_at n; omega, wt_next HW.out.d1, hK.base HB5.out.1 HB5.out.2, Nat.le_trans HB5.out.2 hK.size⟩)
      clear hP hK HDN HB5
      have HDU := Aside0.mk (p_Due.calls HW6.out.pa aS_size (sg_at _))
      have HFA := Aside0.mk (p_Fails.calls HW6.out.pa aS_size (sg_at _))
      have hlw := lw_at n
      have hsub : wrap64 (d + wt ((n : Int) + 1) - d) = wt ((n : Int) + 1) := by
        have := HW.out.t0
        unfold wrap64
        omega
      have h1 : ¬ (wt ((n : Int) + 1) < lw n) := by omega
      have h2 : ¬ (86400 < wt ((n : Int) + 1)) := by omega
      have h3 : ¬ (wt ((n : Int) + 1) < 60) := by omega
      have hls := lw_succ n
      generalize wt ((n : Int) + 1) = W at *
      clear hlw
      go_wp2_with fail
      refine HDU.out.mono ?_
      rintro e w7 ⟨rfl, rfl⟩
      go_wp2_with fail
      refine HFA.out.mono ?_
      rintro e w8 ⟨rfl, rfl⟩
      go_wp2_with fail
      rw [en]
      exact ⟨⟨n + 1, d, d + W, HLT.out, by rw [hls]; congr 1; omega, rfl, HW6⟩, by simp [intOf]; omega⟩
    · obtain rfl : n = q := by omega
      have hroom := wt_room HW.out.d1 (by have := HQ.out; omega) HNW.out.2
      have HDU := Aside0.mk (p_Due.calls HW.out.pa aS_size (sg_at _))
      have hTk := take_sg HW.out.pa (by simp) d 5 (by decide) HW.out.size
      rw [w_due HW.out.t0 (by omega), dueF_now] at hTk
      have HTK := Aside0.mk hTk
      have HRM := Aside0.mk hroom
      clear hTk hroom
      go_wp2_with fail
      refine HDU.out.mono ?_
      rintro e w4 ⟨rfl, rfl⟩
      go_wp2_with fail
      refine HTK.out.mono ?_
      rintro e w5 ⟨v5, rfl, hL, hP, hK⟩
      simp only [if_true] at hL hP
      obtain ⟨A5, c5, rfl⟩ := Kd.R_slice hL
      have HB5 := Aside0.mk (show Below B w w5 ∧ B ≤ w5.heap.size from ⟨hK.base HW.out.low HW.out.size, Nat.le_trans HW.out.size hK.size⟩)
      have hDn := p_Done2.calls hP d aS_size true (sg_at _) (by show 0 ≤ d; have := HW.out.t0; omega) (by have := HW.out.t0; have := HRM.out; omega) (by show 0 ≤ (n : Int) ∧ (n : Int) < 1000000; have := HQ.out; omega)
      rw [ltr_self, sg_upd, dn_good HRM.out] at hDn
      have HDN := Aside0.mk hDn
      clear hL hP hK hDn HTK HDU
      go_wp2_with fail
      refine HDN.out.mono ?_
      rintro e w6 ⟨rfl, hP, hK⟩
      have HB6 := Aside0.mk (show Below B w w6 ∧ B ≤ w6.heap.size from ⟨hK.base HB5.out.1 HB5.out.2, Nat.le_trans HB5.out.2 hK.size⟩)
      have HDU := Aside0.mk (p_Due.calls hP aS_size (sg_at _))
      have HFA := Aside0.mk (p_Fails.calls hP aS_size (sg_at _))
      have h6 : wrap64 (d + 600) = d + 600 := by
        have := HW.out.t0
        have := HRM.out
        unfold wrap64
        omega
      clear hP hK HDN HB5
      go_wp2_with fail
      refine HDU.out.mono ?_
      rintro e w7 ⟨rfl, rfl⟩
      go_wp2_with fail
      refine HFA.out.mono ?_
      rintro e w8 ⟨rfl, rfl⟩
      go_wp2_with fail
      refine (law_alive.calls _).mono ?_
      rintro e w9 ⟨rfl, hb⟩
      have HB9 := Aside0.mk (HB6.out.1.trans (hb.mono HB6.out.2))
      clear hb
      go_wp2_with fail
      go_ret
      exact ⟨rfl, HB9.out⟩
end Go.Proofs.Ytomkjakffpomdaa.Q
