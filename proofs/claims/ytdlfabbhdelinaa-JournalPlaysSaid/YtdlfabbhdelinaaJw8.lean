/- A journal's frames as the document reads them, and their law, walked. No condition but those typed. -/
import Derived.Test.YtdlfabbhdelinaaShort
import Derived.Test.YtdlfabbhdelinaaWalk0
import Derived.Test.YtdlfabbhdelinaaDisk09
import Derived.Test.YtdlfabbhdelinaaJw4
import Derived.Test.YtdlfabbhdelinaaJf1
import Derived.Outline
namespace Go.Proofs.Ytdlfabbhdelinaa.Q
open Go.RowKit Go.Proofs.YtdlfabbhdelinaaW.PrintWords Go.Proofs.YtdlfabbhdelinaaW.PrintLast Go.Proofs.YtdlfabbhdelinaaW.PrintMore
open Go.Proofs.Ytdlfabbhdelinaa.Dk Go.Proofs.Ytdlfabbhdelinaa.Sh
attribute [local go_sem] max2_int min2_int max_two min_two max_three min_three max_four min_four   -- for this text's walks alone
set_option linter.unusedVariables false
set_option linter.unusedSimpArgs false
set_option maxRecDepth 100000
theorem w64of {x : Int} (h0 : 0 ≤ x) (h : x < 9223372036854775808) : wrap64 x = x := by
  unfold wrap64
  omega
theorem w_ix {a i L k : Nat} (h : a + i < L) (hl : L ≤ 2000000) (hk : k = a + i) : wrap64 ((a : Int) + (i : Int)) = (k : Int) := by
  rw [w64of (by omega) (by omega), hk]
  omega
theorem w_ix' {a i L k : Nat} (h : a + i ≤ L) (hl : L ≤ 2000000) (hk : k = a + i) : wrap64 ((a : Int) + (i : Int)) = (k : Int) := by
  rw [w64of (by omega) (by omega), hk]
  omega
theorem ix_lt {a i L k : Nat} (h : a + 8 < L) (hi : i < 8) (hk : k = a + i) : (k : Int) < (L : Int) ∧ k < L ∧ a + i < L := by omega
theorem bad_not {t : List Int} {N M : Int} {L : Nat} (h8 : 8 < t.length) (hN : N = rdN t) (hM : M = (L : Int) - 8) (hL : L = t.length) (h : N < 1 ∨ 16384 < N ∨ M < N) : (Jr.nextR t).2 = false := Jf.next_not h8 (by omega)
theorem good_not {t : List Int} {N M : Int} {L : Nat} (hN : N = rdN t) (hM : M = (L : Int) - 8) (hL : L = t.length) (n0 : ¬ N < 1) (n1 : ¬ 16384 < N) (n2 : ¬ M < N) : ¬ (rdN t < 1 ∨ 16384 < rdN t ∨ (t.length : Int) - 8 < rdN t) := by omega
theorem ix_n {N M : Int} {L n a B : Nat} (hM : M = (L : Int) - 8) (n0 : ¬ N < 1) (n1 : ¬ 16384 < N) (n2 : ¬ M < N) (hn : n = N.toNat) (hL : L = B - a) (ha : a ≤ B) : N = (n : Int) ∧ (1 ≤ n ∧ n ≤ 16384 ∧ 8 + n ≤ L) ∧ a + 8 + n ≤ B := by omega
theorem w_8n {a n L : Nat} (h : a + (8 + n) ≤ L) (hl : L ≤ 2000000) : wrap64 (8 + (n : Int)) = ((8 + n : Nat) : Int) ∧ wrap64 ((a : Int) + ((8 + n : Nat) : Int)) = ((a + (8 + n) : Nat) : Int) := by
  constructor
  · rw [w64of (by omega) (by omega)]; omega
  · rw [w64of (by omega) (by omega)]; omega
theorem w_sub {a L k : Nat} (h : a ≤ L) (hl : L ≤ 2000000) (hk : k = L - a) : wrap64 ((L : Int) - (a : Int)) = (k : Int) := by
  rw [w64of (by omega) (by omega), hk]
  omega
theorem w_m8 {L : Nat} (hl : L ≤ 2000000) : wrap64 ((L : Int) - 8) = (L : Int) - 8 := by
  unfold wrap64
  omega
theorem w_four {x0 x1 x2 x3 N : Int} (h0 : 0 ≤ x0 ∧ x0 < 256) (h1 : 0 ≤ x1 ∧ x1 < 256) (h2 : 0 ≤ x2 ∧ x2 < 256) (h3 : 0 ≤ x3 ∧ x3 < 256) (hN : N = (x0 * 256 + x1) * 65536 + x2 * 256 + x3) :
    wrap64 x0 = x0 ∧ wrap64 x1 = x1 ∧ wrap64 x2 = x2 ∧ wrap64 x3 = x3 ∧ ∃ z0 z1 z2 z3 z4, wrap64 (x0 * 256) = z0 ∧ wrap64 (z0 + x1) = z1 ∧ wrap64 (z1 * 65536) = z2 ∧ wrap64 (x2 * 256) = z3 ∧ wrap64 (z2 + z3) = z4 ∧ wrap64 (z4 + x3) = N := by
  refine ⟨w64of h0.1 (by omega), w64of h1.1 (by omega), w64of h2.1 (by omega), w64of h3.1 (by omega), x0 * 256, x0 * 256 + x1, (x0 * 256 + x1) * 65536, x2 * 256, (x0 * 256 + x1) * 65536 + x2 * 256, ?_, ?_, ?_, ?_, ?_, ?_⟩
  · exact w64of (by omega) (by omega)
  · exact w64of (by omega) (by omega)
  · exact w64of (by omega) (by omega)
  · exact w64of (by omega) (by omega)
  · exact w64of (by omega) (by omega)
  · rw [hN]; exact w64of (by omega) (by omega)
theorem str_inj {a b : List Int} (ha : Jf.Bys a) (hb : Jf.Bys b) (h : strOfNums a = strOfNums b) : a = b := by
  have e := congrArg (fun s : ByteArray => s.data.toList) h
  simp only [strOfNums_data] at e
  have inv : ∀ {l : List Int}, Jf.Bys l → (l.map fun n => UInt8.ofNat n.toNat).map (fun u => (u.toNat : Int)) = l := fun {l} hl => by
    rw [List.map_map]
    conv => rhs; rw [← List.map_id l]
    refine List.map_congr_left (fun x hx => ?_)
    have := hl x hx
    show ((UInt8.ofNat x.toNat).toNat : Int) = x
    rw [UInt8.toNat_ofNat']
    omega
  rw [← inv ha, ← inv hb, e]
theorem mid22 {A : Option Addr} {c : Nat} {xs : List Int} {w : World} (hC : (Kd.int .u8).C w A xs.length xs) (hc : xs.length ≤ c) {a b : Int} (h0 : 0 ≤ a) (h1 : a ≤ b) (hm : b ≤ xs.length) :
    ∃ A' : Option Addr, (∀ W : World, (Instr.slice 22 (.slice A xs.length c) (some (.int .i64 a)) (some (.int .i64 b)) none).run Try.prog W = .ok (.slice A' ((xs.take b.toNat).drop a.toNat).length (c - a.toNat)) W) ∧
      (Kd.int .u8).C w A' ((xs.take b.toNat).drop a.toNat).length ((xs.take b.toNat).drop a.toNat) ∧ ((xs.take b.toNat).drop a.toNat).length ≤ c - a.toNat := by
  obtain ⟨i0, hi, _, hsz, _⟩ := info_parts info5
  obtain ⟨A', h1', h2', h3'⟩ := print_mid_of (P := Try.prog) (Value.int .u8) 0 22 5 .i64 .i64 Try.underlying22 hi hsz A c xs a b h0 h1 hm hc
  exact ⟨A', h1', Kd.C_of_reads (h1 := fun _ => rfl) (h2' _ (Kd.reads_of_C hC)), h3'⟩
theorem drop_rd {b : List Int} {a i : Nat} (h : a + i < b.length) : (b.drop a)[i]? = some (rd b ((a + i : Nat) : Int)) := by
  rw [List.getElem?_drop, List.getElem?_eq_getElem h, Plain.rd_get h]
theorem mid_drop {b : List Int} {a n : Nat} : (b.take (a + 8 + n)).drop (a + 8) = ((b.drop a).take (8 + n)).drop 8 := by
  rw [List.take_drop, List.drop_drop, Nat.add_assoc]
theorem mid_drop0 {b : List Int} {a n : Nat} : (b.take (a + 8 + n)).drop a = (b.drop a).take (8 + n) := by
  rw [List.take_drop, Nat.add_assoc]
set_option maxHeartbeats 8000000 in
theorem RScan.calls {ok : Nat → Prop} {v : Value} {b : List Int} {w : World} (hb : Vb ok w v b) (hby : Jf.Bys b) (hl : b.length ≤ 2000000) :
    Calls Try.prog 12 #[v] w fun e w' => ∃ v', e = .returned (.tuple #[v', .int .i64 (Jr.sz (Jr.scanF b) : Nat)]) ∧ Rs w.heap.size (fun _ => True) w' v' (Jr.scanF b) ∧ Below w.heap.size w w' := by
  obtain ⟨A, c, rfl⟩ := Kd.V_slice hb
  have HV := Aside0.mk hb
  have HL := Aside0.mk hl
  have HY := Aside0.mk hby
  clear hb hl hby
  go_enter Try.func12, Try.ntmps12
  go_wp2_with fail
  go_loopw [4, 5] (fun ul j wr => ∃ (vl : Value) (a : Nat) (done : List (List Int)), vl = ul ∧ a ≤ b.length ∧ j = .int .i64 a ∧ Aside0 (a = Jr.sz done ∧ Jr.scanF b = done ++ Jr.scanF (b.drop a)) ∧ Aside0 (Rs w.heap.size (fun _ => True) wr vl done) ∧ Aside0 (Below w.heap.size w wr) ∧ Aside0 (done.length ≤ a)) (fun _ j _ => b.length - (intOf j).toNat)
  case atStart => exact ⟨_, 0, [], rfl, Nat.zero_le _, rfl, ⟨rfl, rfl⟩, ⟨Kd.R_nil _ _ _ _ _⟩, ⟨Below.refl _ _⟩, ⟨Nat.le_refl _⟩⟩
  case round =>
    obtain ⟨vl, a, done, hvl, ha, rfl, HS, HO, HB, HD⟩ := hrel
    subst hvl
    obtain ⟨t, ht⟩ : ∃ t, t = b.drop a := ⟨_, rfl⟩
    have htl : t.length = b.length - a := by rw [ht, List.length_drop]
    obtain ⟨L, hL⟩ : ∃ L, L = t.length := ⟨_, rfl⟩
    have hw0 : wrap64 ((b.length : Int) - (a : Int)) = (L : Int) := w_sub ha HL.out (hL.trans htl)
    have hbt : Jf.Bys t := by rw [ht]; exact HY.out.drop a
    have hLl : L ≤ 2000000 := by have := HL.out; omega
    have HW0 := Aside0.mk hw0
    have HT := Aside0.mk (And.intro ht (And.intro htl (And.intro hL hbt)))
    have HA := Aside0.mk ha
    clear ht htl hL hbt ha hw0
    obtain ⟨Al, cl, rfl⟩ := Kd.R_slice HO.out
    by_cases h8 : 8 < t.length
    case neg =>
      have hw0 := HW0.out
      have hno := Jf.next_far h8
      have hd8 : decide ((8 : Int) < (L : Int)) = false := decide_eq_false (by have := HT.out; omega)
      have HNO := Aside0.mk (Jr.scan_no hno)
      clear hno h8
      go_wp2_with fail
      go_ret2
      have e0 := HS.out.2
      rw [← HT.out.1, HNO.out, List.append_nil] at e0
      rw [e0]
      exact ⟨_, by rw [← HS.out.1]; rfl, HO.out, HB.out⟩
    have hd8 : decide ((8 : Int) < (L : Int)) = true := decide_eq_true (by have := HT.out; omega)
    have hC := (Kd.V_reads' (Kd.V_below HV.out HB.out)).2
    have HC := Aside0.mk hC
    have hal : a + 8 < b.length := by have := HT.out; omega
    have hlt0 : (a : Int) < (b.length : Int) := by omega
    obtain ⟨x0, hx0⟩ : ∃ x, x = rd b (a : Int) := ⟨_, rfl⟩
    have hy0 : 0 ≤ x0 ∧ x0 < 256 := by
      rw [hx0, Plain.rd_get (show a < b.length by omega)]
      exact HY.out _ (List.getElem_mem _)
    have ht0 : t[0]? = some x0 := by rw [HT.out.1, drop_rd (by omega), hx0]; rfl
    obtain ⟨ad0, e0, hc0⟩ := Kd.at_int hC.2 (a : Int) (Int.natCast_nonneg _) hlt0
    rw [← hx0, Int.toNat_natCast] at hc0
    obtain ⟨i1, hi1⟩ : ∃ i, i = a + 1 := ⟨_, rfl⟩
    have HWI1 := Aside0.mk (show wrap64 ((a : Int) + 1) = (i1 : Int) from w_ix (i := 1) (ix_lt hal (by decide) hi1).2.2 HL.out hi1)
    have hlt1 := (ix_lt hal (by decide) hi1).1
    obtain ⟨x1, hx1⟩ : ∃ x, x = rd b (i1 : Int) := ⟨_, rfl⟩
    have hy1 : 0 ≤ x1 ∧ x1 < 256 := by
      rw [hx1, Plain.rd_get (ix_lt hal (by decide) hi1).2.1]
      exact HY.out _ (List.getElem_mem _)
    have ht1 : t[1]? = some x1 := by rw [HT.out.1, drop_rd (ix_lt hal (by decide) hi1).2.2, hx1, hi1]
    obtain ⟨ad1, e1, hc1⟩ := Kd.at_int hC.2 (i1 : Int) (Int.natCast_nonneg _) hlt1
    rw [← hx1, Int.toNat_natCast] at hc1
    have q1 : ad0 = ad1 := by injection (e0.symm.trans e1)
    rw [← q1] at hc1
    clear q1 e1
    obtain ⟨i2, hi2⟩ : ∃ i, i = a + 2 := ⟨_, rfl⟩
    have HWI2 := Aside0.mk (show wrap64 ((a : Int) + 2) = (i2 : Int) from w_ix (i := 2) (ix_lt hal (by decide) hi2).2.2 HL.out hi2)
    have hlt2 := (ix_lt hal (by decide) hi2).1
    obtain ⟨x2, hx2⟩ : ∃ x, x = rd b (i2 : Int) := ⟨_, rfl⟩
    have hy2 : 0 ≤ x2 ∧ x2 < 256 := by
      rw [hx2, Plain.rd_get (ix_lt hal (by decide) hi2).2.1]
      exact HY.out _ (List.getElem_mem _)
    have ht2 : t[2]? = some x2 := by rw [HT.out.1, drop_rd (ix_lt hal (by decide) hi2).2.2, hx2, hi2]
    obtain ⟨ad2, e2, hc2⟩ := Kd.at_int hC.2 (i2 : Int) (Int.natCast_nonneg _) hlt2
    rw [← hx2, Int.toNat_natCast] at hc2
    have q2 : ad0 = ad2 := by injection (e0.symm.trans e2)
    rw [← q2] at hc2
    clear q2 e2
    obtain ⟨i3, hi3⟩ : ∃ i, i = a + 3 := ⟨_, rfl⟩
    have HWI3 := Aside0.mk (show wrap64 ((a : Int) + 3) = (i3 : Int) from w_ix (i := 3) (ix_lt hal (by decide) hi3).2.2 HL.out hi3)
    have hlt3 := (ix_lt hal (by decide) hi3).1
    obtain ⟨x3, hx3⟩ : ∃ x, x = rd b (i3 : Int) := ⟨_, rfl⟩
    have hy3 : 0 ≤ x3 ∧ x3 < 256 := by
      rw [hx3, Plain.rd_get (ix_lt hal (by decide) hi3).2.1]
      exact HY.out _ (List.getElem_mem _)
    have ht3 : t[3]? = some x3 := by rw [HT.out.1, drop_rd (ix_lt hal (by decide) hi3).2.2, hx3, hi3]
    obtain ⟨ad3, e3, hc3⟩ := Kd.at_int hC.2 (i3 : Int) (Int.natCast_nonneg _) hlt3
    rw [← hx3, Int.toNat_natCast] at hc3
    have q3 : ad0 = ad3 := by injection (e0.symm.trans e3)
    rw [← q3] at hc3
    clear q3 e3
    subst e0
    have hN := Jf.rdN_four HT.out.2.2.2 ht0 ht1 ht2 ht3
    have hNr := Jr.rdN_in t
    obtain ⟨N, hNe⟩ : ∃ N, N = rdN t := ⟨_, rfl⟩
    rw [← hNe] at hN hNr
    have HK := Aside0.mk (w_four hy0 hy1 hy2 hy3 hN)
    have HNN := Aside0.mk (And.intro hNe hNr)
    have HAL := Aside0.mk hal
    have g0 : 0 ≤ (a : Int) := Int.natCast_nonneg _
    have g1 : 0 ≤ (i1 : Int) := Int.natCast_nonneg _
    have g2 : 0 ≤ (i2 : Int) := Int.natCast_nonneg _
    have g3 : 0 ≤ (i3 : Int) := Int.natCast_nonneg _
    clear hy0 hy1 hy2 hy3 hx0 hx1 hx2 hx3 ht0 ht1 ht2 ht3 hi1 hi2 hi3 hN hNe hNr hC hal
    obtain ⟨M, hM⟩ : ∃ M : Int, M = (L : Int) - 8 := ⟨_, rfl⟩
    have HWM := Aside0.mk (show wrap64 ((L : Int) - 8) = M from (w_m8 hLl).trans hM.symm)
    have HM := Aside0.mk hM
    clear hM hLl
    have H8 := Aside0.mk h8
    clear h8
    by_cases b0 : N < 1
    · have bb0 : decide (N < 1) = true := decide_eq_true b0
      have HNO := Aside0.mk (Jr.scan_no (bad_not H8.out HNN.out.1 HM.out HT.out.2.2.1 (.inl b0)))
      clear b0
      have hw0 := HW0.out
      have hwi1 := HWI1.out
      have hwi2 := HWI2.out
      have hwi3 := HWI3.out
      have hwM := HWM.out
      obtain ⟨k0, k1, k2, k3, z0, z1, z2, z3, z4, k4, k5, k6, k7, k8, k9⟩ := HK.out
      go_wp2_with fail
      refine start_ (n := 30) (S := fun w' => w'.cell? (ad0.add a) = some (.int .u8 x0) ∧ w'.cell? (ad0.add i1) = some (.int .u8 x1) ∧ w'.cell? (ad0.add i2) = some (.int .u8 x2) ∧ w'.cell? (ad0.add i3) = some (.int .u8 x3)) (ds := []) (bl 30 0x0) (by kernel_rfl) rfl (by kernel_rfl) ⟨hc0, hc1, hc2, hc3⟩ (fun hHeld => ?_)
      refine pu 0 (some 15) (bl 30 0x1) ?_
      refine pu 1 (some 16) (bl 30 0x3) ?_
      refine pu 2 (some 17) (bl 30 0x7) ?_
      refine pu 6 (some 21) (bl 30 0x47) ?_
      refine pu 7 (some 22) (bl 30 0xc7) ?_
      refine pu 8 (some 23) (bl 30 0x1c7) ?_
      refine pu 9 (some 24) (bl 30 0x3c7) ?_
      refine pu 14 (some 29) (bl 30 0x43c7) ?_
      refine pu 15 (some 30) (bl 30 0xc3c7) ?_
      refine pu 16 (some 31) (bl 30 0x1c3c7) ?_
      refine pu 17 (some 32) (bl 30 0x3c3c7) ?_
      refine pu 22 (some 37) (bl 30 0x43c3c7) ?_
      refine pu 23 (some 38) (bl 30 0xc3c3c7) ?_
      refine pu 24 (some 39) (bl 30 0x1c3c3c7) ?_
      refine pu 25 (some 40) (bl 30 0x3c3c3c7) ?_
      refine tk 3 (some 18) (bl 30 0x3c3c3cf) hHeld ?_
      refine pu 4 (some 19) (bl 30 0x3c3c3df) ?_
      refine pu 5 (some 20) (bl 30 0x3c3c3ff) ?_
      refine tk 10 (some 25) (bl 30 0x3c3c7ff) hHeld ?_
      refine pu 11 (some 26) (bl 30 0x3c3cfff) ?_
      refine pu 12 (some 27) (bl 30 0x3c3dfff) ?_
      refine pu 13 (some 28) (bl 30 0x3c3ffff) ?_
      refine tk 18 (some 33) (bl 30 0x3c7ffff) hHeld ?_
      refine pu 19 (some 34) (bl 30 0x3cfffff) ?_
      refine pu 20 (some 35) (bl 30 0x3dfffff) ?_
      refine pu 21 (some 36) (bl 30 0x3ffffff) ?_
      refine tk 26 (some 41) (bl 30 0x7ffffff) hHeld ?_
      refine pu 27 (some 42) (bl 30 0xfffffff) ?_
      refine pu 28 (some 43) (bl 30 0x1fffffff) ?_
      refine pu 29 (some 6) (bl 30 0x3fffffff) ?_
      refine done_ (by kernel_rfl) ?_
      go_wp2_with fail
      go_ret2
      have e0 := HS.out.2
      rw [← HT.out.1, HNO.out, List.append_nil] at e0
      rw [e0]
      exact ⟨_, by rw [← HS.out.1]; rfl, Kd.R_below HO.out (below_drew (Below.refl _ _)), HB.out.trans ((below_drew (Below.refl _ _)).mono HB.out.size)⟩
    have nb0 := b0
    clear b0
    by_cases b1 : 16384 < N
    · have bb0 : decide (N < 1) = false := decide_eq_false nb0
      have bb1 : decide (16384 < N) = true := decide_eq_true b1
      have HNO := Aside0.mk (Jr.scan_no (bad_not H8.out HNN.out.1 HM.out HT.out.2.2.1 (.inr (.inl b1))))
      clear b1 nb0
      have hw0 := HW0.out
      have hwi1 := HWI1.out
      have hwi2 := HWI2.out
      have hwi3 := HWI3.out
      have hwM := HWM.out
      obtain ⟨k0, k1, k2, k3, z0, z1, z2, z3, z4, k4, k5, k6, k7, k8, k9⟩ := HK.out
      go_wp2_with fail
      refine start_ (n := 30) (S := fun w' => w'.cell? (ad0.add a) = some (.int .u8 x0) ∧ w'.cell? (ad0.add i1) = some (.int .u8 x1) ∧ w'.cell? (ad0.add i2) = some (.int .u8 x2) ∧ w'.cell? (ad0.add i3) = some (.int .u8 x3)) (ds := []) (bl 30 0x0) (by kernel_rfl) rfl (by kernel_rfl) ⟨hc0, hc1, hc2, hc3⟩ (fun hHeld => ?_)
      refine pu 0 (some 15) (bl 30 0x1) ?_
      refine pu 1 (some 16) (bl 30 0x3) ?_
      refine pu 2 (some 17) (bl 30 0x7) ?_
      refine pu 6 (some 21) (bl 30 0x47) ?_
      refine pu 7 (some 22) (bl 30 0xc7) ?_
      refine pu 8 (some 23) (bl 30 0x1c7) ?_
      refine pu 9 (some 24) (bl 30 0x3c7) ?_
      refine pu 14 (some 29) (bl 30 0x43c7) ?_
      refine pu 15 (some 30) (bl 30 0xc3c7) ?_
      refine pu 16 (some 31) (bl 30 0x1c3c7) ?_
      refine pu 17 (some 32) (bl 30 0x3c3c7) ?_
      refine pu 22 (some 37) (bl 30 0x43c3c7) ?_
      refine pu 23 (some 38) (bl 30 0xc3c3c7) ?_
      refine pu 24 (some 39) (bl 30 0x1c3c3c7) ?_
      refine pu 25 (some 40) (bl 30 0x3c3c3c7) ?_
      refine tk 3 (some 18) (bl 30 0x3c3c3cf) hHeld ?_
      refine pu 4 (some 19) (bl 30 0x3c3c3df) ?_
      refine pu 5 (some 20) (bl 30 0x3c3c3ff) ?_
      refine tk 10 (some 25) (bl 30 0x3c3c7ff) hHeld ?_
      refine pu 11 (some 26) (bl 30 0x3c3cfff) ?_
      refine pu 12 (some 27) (bl 30 0x3c3dfff) ?_
      refine pu 13 (some 28) (bl 30 0x3c3ffff) ?_
      refine tk 18 (some 33) (bl 30 0x3c7ffff) hHeld ?_
      refine pu 19 (some 34) (bl 30 0x3cfffff) ?_
      refine pu 20 (some 35) (bl 30 0x3dfffff) ?_
      refine pu 21 (some 36) (bl 30 0x3ffffff) ?_
      refine tk 26 (some 41) (bl 30 0x7ffffff) hHeld ?_
      refine pu 27 (some 42) (bl 30 0xfffffff) ?_
      refine pu 28 (some 43) (bl 30 0x1fffffff) ?_
      refine pu 29 (some 6) (bl 30 0x3fffffff) ?_
      refine done_ (by kernel_rfl) ?_
      go_wp2_with fail
      go_ret2
      have e0 := HS.out.2
      rw [← HT.out.1, HNO.out, List.append_nil] at e0
      rw [e0]
      exact ⟨_, by rw [← HS.out.1]; rfl, Kd.R_below HO.out (below_drew (Below.refl _ _)), HB.out.trans ((below_drew (Below.refl _ _)).mono HB.out.size)⟩
    have nb1 := b1
    clear b1
    by_cases b2 : M < N
    · have bb0 : decide (N < 1) = false := decide_eq_false nb0
      have bb1 : decide (16384 < N) = false := decide_eq_false nb1
      have bb2 : decide (M < N) = true := decide_eq_true b2
      have HNO := Aside0.mk (Jr.scan_no (bad_not H8.out HNN.out.1 HM.out HT.out.2.2.1 (.inr (.inr b2))))
      clear b2 nb0 nb1
      have hw0 := HW0.out
      have hwi1 := HWI1.out
      have hwi2 := HWI2.out
      have hwi3 := HWI3.out
      have hwM := HWM.out
      obtain ⟨k0, k1, k2, k3, z0, z1, z2, z3, z4, k4, k5, k6, k7, k8, k9⟩ := HK.out
      go_wp2_with fail
      refine start_ (n := 30) (S := fun w' => w'.cell? (ad0.add a) = some (.int .u8 x0) ∧ w'.cell? (ad0.add i1) = some (.int .u8 x1) ∧ w'.cell? (ad0.add i2) = some (.int .u8 x2) ∧ w'.cell? (ad0.add i3) = some (.int .u8 x3)) (ds := []) (bl 30 0x0) (by kernel_rfl) rfl (by kernel_rfl) ⟨hc0, hc1, hc2, hc3⟩ (fun hHeld => ?_)
      refine pu 0 (some 15) (bl 30 0x1) ?_
      refine pu 1 (some 16) (bl 30 0x3) ?_
      refine pu 2 (some 17) (bl 30 0x7) ?_
      refine pu 6 (some 21) (bl 30 0x47) ?_
      refine pu 7 (some 22) (bl 30 0xc7) ?_
      refine pu 8 (some 23) (bl 30 0x1c7) ?_
      refine pu 9 (some 24) (bl 30 0x3c7) ?_
      refine pu 14 (some 29) (bl 30 0x43c7) ?_
      refine pu 15 (some 30) (bl 30 0xc3c7) ?_
      refine pu 16 (some 31) (bl 30 0x1c3c7) ?_
      refine pu 17 (some 32) (bl 30 0x3c3c7) ?_
      refine pu 22 (some 37) (bl 30 0x43c3c7) ?_
      refine pu 23 (some 38) (bl 30 0xc3c3c7) ?_
      refine pu 24 (some 39) (bl 30 0x1c3c3c7) ?_
      refine pu 25 (some 40) (bl 30 0x3c3c3c7) ?_
      refine tk 3 (some 18) (bl 30 0x3c3c3cf) hHeld ?_
      refine pu 4 (some 19) (bl 30 0x3c3c3df) ?_
      refine pu 5 (some 20) (bl 30 0x3c3c3ff) ?_
      refine tk 10 (some 25) (bl 30 0x3c3c7ff) hHeld ?_
      refine pu 11 (some 26) (bl 30 0x3c3cfff) ?_
      refine pu 12 (some 27) (bl 30 0x3c3dfff) ?_
      refine pu 13 (some 28) (bl 30 0x3c3ffff) ?_
      refine tk 18 (some 33) (bl 30 0x3c7ffff) hHeld ?_
      refine pu 19 (some 34) (bl 30 0x3cfffff) ?_
      refine pu 20 (some 35) (bl 30 0x3dfffff) ?_
      refine pu 21 (some 36) (bl 30 0x3ffffff) ?_
      refine tk 26 (some 41) (bl 30 0x7ffffff) hHeld ?_
      refine pu 27 (some 42) (bl 30 0xfffffff) ?_
      refine pu 28 (some 43) (bl 30 0x1fffffff) ?_
      refine pu 29 (some 6) (bl 30 0x3fffffff) ?_
      refine done_ (by kernel_rfl) ?_
      go_wp2_with fail
      go_ret2
      have e0 := HS.out.2
      rw [← HT.out.1, HNO.out, List.append_nil] at e0
      rw [e0]
      exact ⟨_, by rw [← HS.out.1]; rfl, Kd.R_below HO.out (below_drew (Below.refl _ _)), HB.out.trans ((below_drew (Below.refl _ _)).mono HB.out.size)⟩
    have nb2 := b2
    clear b2
    have bb0 : decide (N < 1) = false := decide_eq_false nb0
    have bb1 : decide (16384 < N) = false := decide_eq_false nb1
    have bb2 : decide (M < N) = false := decide_eq_false nb2
    obtain ⟨n, hn⟩ : ∃ n, n = N.toNat := ⟨_, rfl⟩
    obtain ⟨hNn, hnb, hkb⟩ := ix_n HM.out nb0 nb1 nb2 hn (HT.out.2.2.1.trans HT.out.2.1) HA.out
    have hnx := Jf.next_iff HT.out.2.2.2 H8.out (good_not HNN.out.1 HM.out HT.out.2.2.1 nb0 nb1 nb2)
    rw [← HNN.out.1, ← hn] at hnx
    obtain ⟨j, hj⟩ : ∃ j, j = a + 8 := ⟨_, rfl⟩
    obtain ⟨k, hk⟩ : ∃ k, k = a + 8 + n := ⟨_, rfl⟩
    have hkl : k ≤ b.length := by rw [hk]; exact hkb
    have hjn : k = j + n := by omega
    have HWJ := Aside0.mk (show wrap64 ((a : Int) + 8) = (j : Int) from w_ix (i := 8) HAL.out HL.out hj)
    have HWK := Aside0.mk (show wrap64 ((j : Int) + (n : Int)) = (k : Int) from w_ix' (hjn ▸ hkl) HL.out hjn)
    obtain ⟨A1, hcut1, hCr, hcr⟩ := mid22 HC.out.2 HC.out.1 (a := (j : Int)) (b := (k : Int)) (by omega) (by omega) (by omega)
    obtain ⟨A2, hcut2, hCt, hct⟩ := mid22 HC.out.2 HC.out.1 (a := (a : Int)) (b := (k : Int)) (by omega) (by omega) (by omega)
    rw [Int.toNat_natCast, Int.toNat_natCast] at hcut1 hCr hcr hcut2 hCt hct
    have er : (b.take k).drop j = (t.take (8 + n)).drop 8 := by rw [HT.out.1, hj, hk]; exact mid_drop
    have et : (b.take k).drop a = t.take (8 + n) := by rw [HT.out.1, hk]; exact mid_drop0
    rw [er] at hcut1 hCr hcr
    rw [et] at hcut2 hCt hct
    obtain ⟨r, hr⟩ : ∃ r, r = (t.take (8 + n)).drop 8 := ⟨_, rfl⟩
    obtain ⟨s, hs⟩ : ∃ s, s = t.take (8 + n) := ⟨_, rfl⟩
    rw [← hr] at hcut1 hCr hcr hnx
    rw [← hs] at hcut2 hCt hct hnx
    have hrby : Jf.Bys r := by rw [hr]; exact (HT.out.2.2.2.take _).drop _
    obtain ⟨kk, hkk⟩ := Ev.rounds (Jf.frame_ev hrby (by rw [hnx.2.2.2]; omega))
    rw [hnx.2.2.1, if_pos rfl] at hkk
    have HFR := Aside0.mk hkk
    have HX := Aside0.mk hnx
    have HCR := Aside0.mk (And.intro hCr hcr)
    have HCT := Aside0.mk (And.intro hCt hct)
    have HRB2 := Aside0.mk hr.symm
    have HW8 := Aside0.mk (w_8n (show a + (8 + n) ≤ b.length by rw [← Nat.add_assoc]; exact hkb) HL.out)
    have HRB := Aside0.mk (And.intro hrby (show Jf.Bys s by rw [hs]; exact HT.out.2.2.2.take _))
    have HN := Aside0.mk (And.intro hnb (And.intro hj hk))
    subst hNn
    clear hnb hkb hj hk er et hr hs hrby hkk hnx hCr hcr hCt hct nb0 nb1 nb2 hn hkl hjn
    have hwj := HWJ.out
    have hwk := HWK.out
    have hw0 := HW0.out
    have hwi1 := HWI1.out
    have hwi2 := HWI2.out
    have hwi3 := HWI3.out
    have hwM := HWM.out
    obtain ⟨k0, k1, k2, k3, z0, z1, z2, z3, z4, k4, k5, k6, k7, k8, k9⟩ := HK.out
    go_wp2_with fail
    refine start_ (n := 30) (S := fun w' => w'.cell? (ad0.add a) = some (.int .u8 x0) ∧ w'.cell? (ad0.add i1) = some (.int .u8 x1) ∧ w'.cell? (ad0.add i2) = some (.int .u8 x2) ∧ w'.cell? (ad0.add i3) = some (.int .u8 x3)) (ds := []) (bl 30 0x0) (by kernel_rfl) rfl (by kernel_rfl) ⟨hc0, hc1, hc2, hc3⟩ (fun hHeld => ?_)
    refine pu 0 (some 15) (bl 30 0x1) ?_
    refine pu 1 (some 16) (bl 30 0x3) ?_
    refine pu 2 (some 17) (bl 30 0x7) ?_
    refine pu 6 (some 21) (bl 30 0x47) ?_
    refine pu 7 (some 22) (bl 30 0xc7) ?_
    refine pu 8 (some 23) (bl 30 0x1c7) ?_
    refine pu 9 (some 24) (bl 30 0x3c7) ?_
    refine pu 14 (some 29) (bl 30 0x43c7) ?_
    refine pu 15 (some 30) (bl 30 0xc3c7) ?_
    refine pu 16 (some 31) (bl 30 0x1c3c7) ?_
    refine pu 17 (some 32) (bl 30 0x3c3c7) ?_
    refine pu 22 (some 37) (bl 30 0x43c3c7) ?_
    refine pu 23 (some 38) (bl 30 0xc3c3c7) ?_
    refine pu 24 (some 39) (bl 30 0x1c3c3c7) ?_
    refine pu 25 (some 40) (bl 30 0x3c3c3c7) ?_
    refine tk 3 (some 18) (bl 30 0x3c3c3cf) hHeld ?_
    refine pu 4 (some 19) (bl 30 0x3c3c3df) ?_
    refine pu 5 (some 20) (bl 30 0x3c3c3ff) ?_
    refine tk 10 (some 25) (bl 30 0x3c3c7ff) hHeld ?_
    refine pu 11 (some 26) (bl 30 0x3c3cfff) ?_
    refine pu 12 (some 27) (bl 30 0x3c3dfff) ?_
    refine pu 13 (some 28) (bl 30 0x3c3ffff) ?_
    refine tk 18 (some 33) (bl 30 0x3c7ffff) hHeld ?_
    refine pu 19 (some 34) (bl 30 0x3cfffff) ?_
    refine pu 20 (some 35) (bl 30 0x3dfffff) ?_
    refine pu 21 (some 36) (bl 30 0x3ffffff) ?_
    refine tk 26 (some 41) (bl 30 0x7ffffff) hHeld ?_
    refine pu 27 (some 42) (bl 30 0xfffffff) ?_
    refine pu 28 (some 43) (bl 30 0x1fffffff) ?_
    refine pu 29 (some 6) (bl 30 0x3fffffff) ?_
    refine done_ (by kernel_rfl) ?_
    go_wp2_with (at_builtin; refine Kd.R_append_row (Value.int .u8) 0 (w0 := wr) wr.heap.size rfl _ _ 22 5 (.int .u8 0) 1 rfl Try.underlying22 info5 rfl (by decide) (.slice none 0 0) [] r A1 r.length (c - j) (fun _ => True) rfl rfl (fun _ _ => trivial) (Kd.R_nil _ _ _ _ _) (Kd.C_drew HCR.out.1) (below_drew (Below.refl _ _)) (Nat.le_refl _) (by have h1 := HX.out.2.2.2; have h2 := HN.out.1; simp; omega) ?_; intro v1 w1 ho1 hb1 hg1 hat1)
    rw [List.nil_append] at ho1
    obtain ⟨A3, c3, rfl⟩ := Kd.R_slice ho1
    have HO3 := Aside0.mk ho1
    have HB3 := Aside0.mk hb1
    clear ho1 hb1 hg1 hat1
    have HFC := Aside0.mk (F.cringleref10_Frame.calls kk A3 c3 r _ _ w1 (Kd.R_reads' HO3.out).2.2 (Kd.R_reads' HO3.out).2.1 HFR.out)
    go_wp2_with fail
    refine HFC.out.mono ?_
    rintro e w2 ⟨v2, rfl, ho2, hb2⟩
    obtain ⟨A4, c4, rfl⟩ := Kd.R_slice ho2
    have HO4 := Aside0.mk ho2
    have HBW := Aside0.mk (HB3.out.trans (hb2.mono HB3.out.size))
    have HB4 := Aside0.mk (HB.out.trans (HBW.out.mono HB.out.size))
    have HR4 := Aside0.mk (Kd.R_below HO3.out hb2)
    clear ho2 hb2 HFC
    have hb4 := HB4.out
    have hCs := Kd.C_below HCT.out.1 (show Below wr.heap.size wr w2 from HBW.out)
    obtain ⟨f, hf⟩ : ∃ f, f = frame r := ⟨_, rfl⟩
    rw [← hf] at HO4 HX ⊢
    have hby : Jf.Bys f ∧ Jf.Bys s := ⟨by rw [hf]; exact ((Jf.be_bys _).app (Jf.be_bys _)).app HRB.out.1, HRB.out.2⟩
    have hCf := (Kd.R_reads' HO4.out).2.2
    by_cases hq : f = s
    case neg =>
      have hno : (Jr.nextR t).2 = false := Bool.eq_false_iff.2 (fun h => hq (HX.out.2.1.1 h))
      have hne : ¬ strOfNums f = strOfNums s := fun h => hq (str_inj hby.1 hby.2 h)
      have HNO := Aside0.mk (Jr.scan_no hno)
      obtain ⟨S0, hS0⟩ : ∃ S, S = strOfNums f := ⟨_, rfl⟩
      obtain ⟨S1, hS1⟩ : ∃ S, S = strOfNums s := ⟨_, rfl⟩
      have CV := Aside0.mk (show (∀ W, Below w2.heap.size w2 W → (convert 22 9 (.slice A4 f.length c4)).run Try.prog W = .ok (.string S0) W ∧ (convert 22 9 (.slice A2 s.length (c - a))).run Try.prog W = .ok (.string S1) W) from fun W hW => ⟨by rw [hS0]; exact Kd.C_string (P := Try.prog) Try.underlying22 Try.underlying5 Try.underlying9 (Kd.C_below hCf hW), by rw [hS1]; exact Kd.C_string (P := Try.prog) Try.underlying22 Try.underlying5 Try.underlying9 (Kd.C_below hCs hW)⟩)
      rw [← hS0, ← hS1] at hne
      have hs0 : ¬ S0.toList = S1.toList := fun h => hne (toList_inj' h)
      have hs1 : (S0.toList == S1.toList) = false := by simpa using hs0
      have hs2 : (S0.toList != S1.toList) = true := by simpa using hs0
      clear hno hne hS0 hS1 hCs hCf hby hf hq hb4
      go_wp2_with fail
      refine start_ (n := 11) (S := fun w' => (convert 22 9 (.slice A4 f.length c4)).run Try.prog w' = .ok (.string S0) w' ∧ (convert 22 9 (.slice A2 s.length (c - a))).run Try.prog w' = .ok (.string S1) w') (ds := []) (bl 11 0x0) (by kernel_rfl) rfl (by kernel_rfl) ⟨(CV.out _ (below_drew (Below.refl _ _))).1, (CV.out _ (below_drew (Below.refl _ _))).2⟩ (fun hHeld => ?_)
      refine pu 0 (some 73) (bl 11 0x1) ?_
      refine pu 2 (some 75) (bl 11 0x5) ?_
      refine pu 3 (some 76) (bl 11 0xd) ?_
      refine pu 4 (some 77) (bl 11 0x1d) ?_
      refine pu 5 (some 78) (bl 11 0x3d) ?_
      refine pu 6 (some 79) (bl 11 0x7d) ?_
      refine pu 7 (some 80) (bl 11 0xfd) ?_
      refine pu 8 (some 81) (bl 11 0x1fd) ?_
      refine tk 1 (some 74) (bl 11 0x1ff) hHeld ?_
      refine tk 9 (some 82) (bl 11 0x3ff) hHeld ?_
      refine pu 10 (some 83) (bl 11 0x7ff) ?_
      refine done_ (by kernel_rfl) ?_
      go_wp2_with fail
      go_ret2
      have e0 := HS.out.2
      rw [← HT.out.1, HNO.out, List.append_nil] at e0
      rw [e0]
      exact ⟨_, by rw [← HS.out.1]; rfl, Kd.R_below (Kd.R_below HO.out HBW.out) (below_drew (Below.refl _ _)), HB4.out.trans ((below_drew (Below.refl _ _)).mono HB4.out.size)⟩
    obtain rfl := hq
    have hyes : (Jr.nextR t).2 = true := HX.out.2.1.2 rfl
    have HYES := Aside0.mk (Jr.scan_yes hyes)
    obtain ⟨S0, hS0⟩ : ∃ S, S = strOfNums f := ⟨_, rfl⟩
    have CV := Aside0.mk (show (∀ W, Below w2.heap.size w2 W → (convert 22 9 (.slice A4 f.length c4)).run Try.prog W = .ok (.string S0) W ∧ (convert 22 9 (.slice A2 f.length (c - a))).run Try.prog W = .ok (.string S0) W) from fun W hW => ⟨by rw [hS0]; exact Kd.C_string (P := Try.prog) Try.underlying22 Try.underlying5 Try.underlying9 (Kd.C_below hCf hW), by rw [hS0]; exact Kd.C_string (P := Try.prog) Try.underlying22 Try.underlying5 Try.underlying9 (Kd.C_below hCs hW)⟩)
    have HO5 := Aside0.mk (Kd.R_below (Kd.R_below HO.out HBW.out) (below_drew (Below.refl _ _)))
    have HR5 := Aside0.mk (Kd.R_below HR4.out (below_drew (Below.refl _ _)))
    have HB5 := Aside0.mk (HB4.out.trans ((below_drew (Below.refl _ _)).mono HB4.out.size))
    have hne2 : ∀ k, (Value.slice A3 r.length c3).ownBlock = some k → some k ≠ (Value.slice Al done.length cl).ownBlock := fun k hk he => by
      have h1 := Kd.R_base HR4.out k hk
      have h2 := Kd.R_lt HO.out k he.symm
      omega
    have HM := Aside0.mk (Kd.M_row (R_base_less (b' := w.heap.size) HR5.out HB.out.size hne2))
    have HLEN := Aside0.mk (show (done.length + 1) * 24 ≤ 140737488355328 from by have h1 := HD.out; have h2 := HL.out; have h3 := HA.out; omega)
    clear hyes hS0 hCs hCf hby hf hb4 hne2
    go_wp2_with fail
    refine start_ (n := 11) (S := fun w' => (convert 22 9 (.slice A4 f.length c4)).run Try.prog w' = .ok (.string S0) w' ∧ (convert 22 9 (.slice A2 f.length (c - a))).run Try.prog w' = .ok (.string S0) w') (ds := []) (bl 11 0x0) (by kernel_rfl) rfl (by kernel_rfl) ⟨(CV.out _ (below_drew (Below.refl _ _))).1, (CV.out _ (below_drew (Below.refl _ _))).2⟩ (fun hHeld => ?_)
    refine pu 0 (some 73) (bl 11 0x1) ?_
    refine pu 2 (some 75) (bl 11 0x5) ?_
    refine pu 3 (some 76) (bl 11 0xd) ?_
    refine pu 4 (some 77) (bl 11 0x1d) ?_
    refine pu 5 (some 78) (bl 11 0x3d) ?_
    refine pu 6 (some 79) (bl 11 0x7d) ?_
    refine pu 7 (some 80) (bl 11 0xfd) ?_
    refine pu 8 (some 81) (bl 11 0x1fd) ?_
    refine tk 1 (some 74) (bl 11 0x1ff) hHeld ?_
    refine tk 9 (some 82) (bl 11 0x3ff) hHeld ?_
    refine pu 10 (some 83) (bl 11 0x7ff) ?_
    refine done_ (by kernel_rfl) ?_
    go_wp2_with (at_builtin; refine Kd.R_append (Kd.slice 5 (Kd.int .u8)) (w0 := w) w.heap.size rfl (.tmp 84) (.tmp 86) 29 22 (.slice none 0 0) 24 rfl Try.underlying29 info22 rfl (by decide) (by decide) (.slice Al done.length cl) done r [.slice A3 r.length c3] (fun _ => True) (fun k => some k ≠ (Value.slice Al done.length cl).ownBlock) rfl rfl HM.out (fun k hk => ⟨trivial, hk⟩) (fun _ _ => trivial) HO5.out HB5.out HB5.out.size HLEN.out ?_; intro v6 w6 ho6 hb6 hg6 hat6)
    have HO6 := Aside0.mk ho6
    have HB6 := Aside0.mk hb6
    clear ho6 hb6 hg6 hat6
    have hw1 : wrap64 (8 + (n : Int)) = ((8 + n : Nat) : Int) := HW8.out.1
    have hw2 : wrap64 ((a : Int) + ((8 + n : Nat) : Int)) = ((a + (8 + n) : Nat) : Int) := HW8.out.2
    clear hwj hwk k0 k1 k2 k3 k4 k5 k6 k7 k8 k9 hwi1 hwi2 hwi3 hw0 hwM
    go_wp2_with fail
    rw [hw1, hw2]
    clear hw1 hw2
    go_roundw
    case rel =>
      have h1 := HN.out.1
      have h2 := HT.out.2
      refine ⟨_, a + (8 + n), done ++ [r], rfl, ?_, rfl, ⟨by rw [Jr.sz_append, Jr.sz_one, ← HS.out.1, HX.out.2.2.2], ?_⟩, HO6, HB6, ⟨by rw [List.length_append, List.length_singleton]; have := HD.out; omega⟩⟩
      · have := HA.out
        omega
      · rw [HS.out.2, ← HT.out.1, HYES.out, HX.out.1, HX.out.2.2.2, HT.out.1, List.drop_drop, List.append_assoc]
        rfl
    case measure =>
      have h1 := HN.out.1
      have h2 := HT.out.2
      have h3 := HA.out
      simp [intOf]
      omega
theorem len_sz (l : List (List Int)) : l.length ≤ Jr.sz l := by
  induction l with
  | nil => exact Nat.le_refl _
  | cons r l ih => rw [Jr.sz_cons, List.length_cons]; omega
theorem b20 {n : Nat} (h : ¬ 20000 < n) : n ≤ 2000000 := by omega
theorem b20i {n : Nat} (h : 20000 < n) : (20000 : Int) < (n : Int) := by omega
theorem b20n {n : Nat} (h : ¬ 20000 < n) : ¬ (20000 : Int) < (n : Int) := by omega
set_option maxHeartbeats 4000000 in
theorem law_Frames.calls {w : World} {A0 A1 : Option Addr} {c0 c1 : Nat} {r b : List Int} (h0 : (Kd.int .u8).C w A0 r.length r) (hc0 : r.length ≤ c0) (hy0 : Jf.Bys r) (h1 : (Kd.int .u8).C w A1 b.length b) (hc1 : b.length ≤ c1) (hy1 : Jf.Bys b) :
    Calls Try.prog 3 #[.slice A0 r.length c0, .slice A1 b.length c1] w fun e w' => e = .returned (.bool true) ∧ Below w.heap.size w w' := by
  have V0 := Aside0.mk (V_arg h0 hc0)
  have V1 := Aside0.mk (V_arg h1 hc1)
  have HY := Aside0.mk (And.intro hy0 hy1)
  have HAL := Aside0.mk (law_alive.calls w)
  clear h0 hc0 h1 hc1 hy0 hy1
  by_cases t1 : 20000 < b.length
  · have tb : decide ((20000 : Int) < (b.length : Int)) = true := decide_eq_true (b20i t1)
    clear t1
    go_enter Try.func3, Try.ntmps3
    go_wp2_with fail
    refine HAL.out.mono ?_
    rintro e w1 ⟨rfl, hb⟩
    have HB := Aside0.mk hb
    clear hb
    go_wp2_with fail
    go_ret
    exact ⟨rfl, HB.out⟩
  have HL1 := Aside0.mk (b20 t1)
  have HLB := Aside0.mk t1
  have tb : decide ((20000 : Int) < (b.length : Int)) = false := decide_eq_false (b20n t1)
  clear t1
  by_cases t2 : 20000 < r.length
  · have tc : decide ((20000 : Int) < (r.length : Int)) = true := decide_eq_true (b20i t2)
    clear t2
    go_enter Try.func3, Try.ntmps3
    go_wp2_with fail
    refine HAL.out.mono ?_
    rintro e w1 ⟨rfl, hb⟩
    have HB := Aside0.mk hb
    clear hb
    go_wp2_with fail
    go_ret
    exact ⟨rfl, HB.out⟩
  have HL0 := Aside0.mk (b20 t2)
  have tc : decide ((20000 : Int) < (r.length : Int)) = false := decide_eq_false (b20n t2)
  clear t2
  have HF1 := Aside0.mk (jFrame.calls V0.out)
  obtain ⟨E, hE⟩ : ∃ E, E = frE r := ⟨_, rfl⟩
  obtain ⟨x, hx⟩ : ∃ x, x = (if frE r = 0 then frame r else []) := ⟨_, rfl⟩
  obtain ⟨kk, hkk⟩ := Ev.rounds (Jf.frame_ev HY.out.1 HL0.out)
  rw [← hx, ← hE] at hkk
  rw [← hx, ← hE] at HF1
  have HKK := Aside0.mk hkk
  obtain ⟨l, hl⟩ : ∃ l, l = Jr.scanF b := ⟨_, rfl⟩
  obtain ⟨n, hn⟩ : ∃ n : Int, n = (Jr.sz l : Nat) := ⟨_, rfl⟩
  have hln : l.length ≤ 1000000 := by
    have h1 := len_sz (Jr.scanF b)
    have h2 := sz_le b
    have h3 := HL1.out
    rw [hl]
    have h4 := HLB.out
    omega
  have HLN := Aside0.mk hln
  have HEQ := Aside0.mk (And.intro hl hn)
  clear hE hx hkk hl hn hln
  go_enter Try.func3, Try.ntmps3
  go_wp2_with fail
  refine HF1.out.mono ?_
  rintro e w1 ⟨v1, rfl, ho1, hb1⟩
  obtain ⟨A2, c2, rfl⟩ := Kd.R_slice ho1
  have HO1 := Aside0.mk ho1
  have HB1 := Aside0.mk hb1
  have HV0 := Aside0.mk (Kd.V_below V0.out hb1)
  have HF2 := Aside0.mk (F.cringleref10_Frame.calls kk A0 c0 r _ _ w1 (Kd.V_reads' HV0.out).2.2 (Kd.V_reads' HV0.out).2.1 HKK.out)
  clear ho1 hb1 HF1
  go_wp2_with fail
  refine HF2.out.mono ?_
  rintro e w2 ⟨v2, rfl, ho2, hb2⟩
  obtain ⟨A3, c3, rfl⟩ := Kd.R_slice ho2
  have HO2 := Aside0.mk ho2
  have HB2 := Aside0.mk (HB1.out.trans (hb2.mono HB1.out.size))
  have HO12 := Aside0.mk (Kd.R_below HO1.out hb2)
  have HF3 := Aside0.mk (jScan.calls (Kd.V_below V1.out HB2.out) HL1.out)
  rw [← HEQ.out.1, ← HEQ.out.2] at HF3
  clear ho2 hb2 HF2 HO1
  go_wp2_with fail
  refine HF3.out.mono ?_
  rintro e w3 ⟨v3, rfl, ho3, hb3⟩
  obtain ⟨A4, c4, rfl⟩ := Kd.R_slice ho3
  have HO3 := Aside0.mk ho3
  have HB3 := Aside0.mk (HB2.out.trans (hb3.mono HB2.out.size))
  have HO13 := Aside0.mk (Kd.R_below HO12.out hb3)
  have HO23 := Aside0.mk (Kd.R_below HO2.out hb3)
  have HF4 := Aside0.mk (RScan.calls (Kd.V_below V1.out HB3.out) HY.out.2 HL1.out)
  rw [← HEQ.out.1, ← HEQ.out.2] at HF4
  clear ho3 hb3 HF3 HO12 HO2
  go_wp2_with fail
  refine HF4.out.mono ?_
  rintro e w4 ⟨v4, rfl, ho4, hb4⟩
  obtain ⟨A5, c5, rfl⟩ := Kd.R_slice ho4
  have HB4 := Aside0.mk (HB3.out.trans (hb4.mono HB3.out.size))
  have hx1 := Kd.R_below HO13.out hb4
  have hx2 := Kd.R_below HO23.out hb4
  have hl1 := Kd.R_below HO3.out hb4
  obtain ⟨S0, hS0⟩ : ∃ S, S = strOfNums x := ⟨_, rfl⟩
  have cv1 : (convert 22 9 (.slice A2 x.length c2)).run Try.prog w4 = .ok (.string S0) w4 := by rw [hS0]; exact Kd.C_string (P := Try.prog) Try.underlying22 Try.underlying5 Try.underlying9 (Kd.R_reads' hx1).2.2
  have cv2 : (convert 22 9 (.slice A3 x.length c3)).run Try.prog w4 = .ok (.string S0) w4 := by rw [hS0]; exact Kd.C_string (P := Try.prog) Try.underlying22 Try.underlying5 Try.underlying9 (Kd.R_reads' hx2).2.2
  have HS := Aside0.mk (jsame.calls (c0 := c4) (c1 := c5) w4 (Kd.R_reads' hl1).2.2 (Kd.R_reads' ho4).2.2 HLN.out)
  have hsm : sameN l l = true := sameN_yes ⟨rfl, fun _ _ => rfl⟩
  rw [hsm] at HS
  clear ho4 hb4 hx1 hx2 hl1 hS0 hsm HF4
  go_wp2_with fail
  refine HS.out.mono ?_
  rintro e w5 ⟨rfl, hd⟩
  have HB5 := Aside0.mk (HB4.out.trans (hd.below.mono HB4.out.size))
  have HAL2 := Aside0.mk (law_alive.calls w5)
  clear hd HS
  go_wp2_with fail
  refine HAL2.out.mono ?_
  rintro e w6 ⟨rfl, hb6⟩
  have HB6 := Aside0.mk (HB5.out.trans (hb6.mono HB5.out.size))
  clear hb6
  go_wp2_with fail
  go_ret
  exact ⟨rfl, HB6.out⟩
end Go.Proofs.Ytdlfabbhdelinaa.Q
