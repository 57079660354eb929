/- A disk's law 'Refused', walked. No condition but those typed. -/
import Derived.Test.YtjiboeokockdcaaWalk0
import Derived.Test.YtjiboeokockdcaaDisk09
import Derived.Test.YtjiboeokockdcaaDk5
namespace Go.Proofs.Ytjiboeokockdcaa.Q
open Go.RowKit Go.Proofs.YtjiboeokockdcaaW.PrintWords Go.Proofs.YtjiboeokockdcaaW.PrintLast Go.Proofs.YtjiboeokockdcaaW.PrintMore
open Go.Proofs.Ytjiboeokockdcaa.Dk
attribute [local go_sem] max2_int min2_int max_two min_two max_three min_three max_four min_four   -- for this text's walks alone
set_option linter.unusedVariables false
set_option linter.unusedSimpArgs false
theorem good_room (r : Int) (h : 0 ≤ r ∧ r < 300) : 1 ≤ r + 1 ∧ r + 1 ≤ 1048576 := by omega
/-- Bytes of the call's own, beside the disk. -/
structure Mine (g base : Nat) (v : Value) (xs : List Int) (w : World) : Prop where
  own : w.ownsRow base 5 1 v xs.length (nums .u8 xs)
  far : ∀ k, v.ownBlock = some k → k ≠ g
theorem Mine.tn {g base : Nat} {v : Value} {xs : List Int} {w w1 : World} (h : Mine g base v xs w) (T : Tn g w w1) : Mine g base v xs w1 :=
  ⟨own_other h.own T.grown (Classical.or_iff_not_imp_left.2 (fun _ e => h.far g e rfl)), h.far⟩
theorem Mine.below {g base : Nat} {v : Value} {xs : List Int} {w w1 : World} (h : Mine g base v xs w) (hb : Below w.heap.size w w1) : Mine g base v xs w1 := h.tn (Tn.of_below hb)
theorem Mine.str {g base : Nat} {v : Value} {xs : List Int} {w : World} (h : Mine g base v xs w) : (convert 23 9 v).run Try.prog w = .ok (.string (strOfNums xs)) w :=
  own_string (P := Try.prog) Try.underlying23 Try.underlying5 Try.underlying9 h.own
theorem Mine.of_R {g base : Nat} {v : Value} {xs : List Int} {w : World} (h : Rb base w v xs) (hg : g < base) : Mine g base v xs w :=
  ⟨Kd.own_of_R h, fun k hk => by have := Kd.R_base h k hk; omega⟩
/-- What a read of a file answers. -/
def rdL (d : D) (i : Bool) : List Int := if d.off = true then [] else (d.fl i).now
def rdE (d : D) : Int := if d.off = true then 12 else 0
theorem fe_iv (d : D) (i : Bool) : fe d (iv i) = rdE d := by
  unfold fe rdE
  rw [if_neg]
  cases i
  · exact fun h => h.1 rfl
  · exact fun h => h.2 rfl
theorem bi_iv (i : Bool) : bi (iv i) = i := by cases i <;> rfl
theorem disk_Read.at {g : Nat} {ok : Nat → Prop} {d : D} {w : World} (h : At g ok d w) (hg : Good d) (i : Bool) :
    Calls Try.prog 13 #[.pointer (some ⟨g, 0, none⟩), .int .i64 (iv i)] w fun e w' => ∃ v', e = .returned (.tuple #[v', .int .i64 (rdE d)]) ∧ Mine g w.heap.size v' (rdL d i) w' ∧ Below w.heap.size w w' := by
  have := disk_Read.all h hg (iv i)
  rw [fe_iv, bi_iv] at this
  refine this.mono ?_
  rintro e w' ⟨v', h1, h2, h3⟩
  refine ⟨v', h1, Mine.of_R ?_ h.lt, h3⟩
  unfold rdL
  unfold rdE at h2
  cases ho : d.off
  · rw [ho] at h2
    exact h2
  · rw [ho] at h2
    exact h2
def rtV (d : D) : Int := if d.off = true then 0 else d.root
theorem disk_Root.at {g : Nat} {ok : Nat → Prop} {d : D} {w : World} (h : At g ok d w) (hr : 0 < d.room) :
    Calls Try.prog 16 #[.pointer (some ⟨g, 0, none⟩)] w fun e w' => e = .returned (.tuple #[.int .i64 (rtV d), .int .i64 (rdE d)]) ∧ w' = w := disk_Root.calls h hr
theorem dead_zero {w : World} {gz : Nat} (h : Blk.At gz #[.slice none 0 0, .slice none 0 0, .int .i64 0, .slice none 0 0, .slice none 0 0, .int .i64 0, .int .i64 0, .int .i64 0, .bool false, .int .i64 0, .bool false] 54 w) : Dead (.pointer (some ⟨gz, 0, none⟩)) w :=
  .inr ⟨gz, fun k => gz < k, ⟨⟨[], [], 0⟩, ⟨[], [], 0⟩, 0, 0, false, 0, false⟩, rfl, ⟨Nat.lt_irrefl _, fun k hk => Nat.lt_of_lt_of_le h.lt hk, _, _, _, _, h, Kd.V_nil _ _ _ _ _, Kd.V_nil _ _ _ _ _, Kd.V_nil _ _ _ _ _, Kd.V_nil _ _ _ _ _⟩, Int.le_refl _⟩
theorem dead_ptr {v : Value} {w : World} (h : Dead v w) : ∃ p, v = .pointer p := by
  rcases h with h | ⟨g, _, _, h, _⟩
  · exact ⟨none, h⟩
  · exact ⟨_, h⟩
set_option maxHeartbeats 8000000 in
set_option maxRecDepth 100000 in
theorem law_Refused.calls {w : World} {room : Int} (hr : 0 ≤ room ∧ room < 65536) {A : Option Addr} {c : Nat} {l : List Ac} (hC : dA.C w A l.length l) (hc : l.length ≤ c) (hl : ∀ a ∈ l, a.n < 9223372036854775808) :
    Calls Try.prog 5 #[.int .u16 room, .slice A l.length c] w fun e w' => e = .returned (.bool true) ∧ Below w.heap.size w w' := by
  have HC := Aside0.mk hC
  have HCC := Aside0.mk hc
  have HLN := Aside0.mk hl
  have HR := Aside0.mk hr
  have hcv : IntKind.i64.wrap room = room := by simp [IntKind.wrap, IntKind.bits, IntKind.signed]; omega
  obtain ⟨q, hq⟩ : ∃ q, q = Int.tmod room 300 := ⟨_, rfl⟩
  have hqr : 0 ≤ q ∧ q < 300 := by
    rw [hq]
    exact ⟨Int.tmod_nonneg _ hr.1, Int.tmod_lt_of_pos _ (by decide)⟩
  have hqc : Int.tmod room 300 = q := hq.symm
  have hqw : wrap64 (q + 1) = q + 1 := by unfold wrap64; omega
  have HQ := Aside0.mk (good_room q hqr)
  clear hC hc hl hr hq hqr
  go_enter Try.func5, Try.ntmps5
  go_wp2_with fail
  refine (disk_New.calls HQ.out.1 HQ.out.2 (fun k => w.heap.size < k) (by omega) (fun _ hk => hk)).mono ?_
  rintro e w1 ⟨rfl, hA, hB⟩
  have HA1 := Aside0.mk hA
  have HB1 := Aside0.mk hB
  obtain ⟨g, hg⟩ : ∃ g, g = w.heap.size := ⟨_, rfl⟩
  have HGE := Aside0.mk hg
  rw [← hg] at HA1 ⊢
  clear hA hB hg
  go_wp2_with fail
  refine (law_far.calls (Kd.C_below HC.out HB1.out) HCC.out).mono ?_
  rintro e w2 ⟨bf, rfl, hB⟩
  have HA2 := Aside0.mk (HA1.out.below hB)
  have HB2 := Aside0.mk (HB1.out.trans (hB.mono HB1.out.size))
  clear hB HA1 HB1
  cases bf
  case true =>
    go_wp2_with fail
    refine (law_alive.calls _).mono ?_
    rintro e w3 ⟨rfl, hB⟩
    have HB3 := Aside0.mk (HB2.out.trans (hB.mono HB2.out.size))
    clear hB
    go_wp2_with fail
    go_ret
    exact ⟨rfl, HB3.out⟩
  obtain ⟨ok, hok⟩ : ∃ ok : Nat → Prop, ok = (fun k => g < k) := ⟨_, rfl⟩
  have HA6 : Aside0 (At g ok (newD (q + 1)) w2) := by rw [hok]; exact HA2
  have HG6 := Aside0.mk (good_new HQ.out.1 HQ.out.2)
  have HB6 := HB2
  clear HA2 HB2 hok
  have HS := Aside0.mk (law_short.calls (A := A) HCC.out)
  obtain ⟨ms, hms⟩ : ∃ ms, ms = sh l.length := ⟨_, rfl⟩
  have HMS := Aside0.mk (show ms ≤ l.length ∧ ms ≤ 60 from by rw [hms]; unfold sh; split <;> omega)
  rw [← hms] at HS
  clear hms
  go_wp2_with fail
  refine (HS.out _).mono ?_
  rintro e w6 ⟨rfl, rfl⟩
  go_wp2_with fail
  go_loopw [56] (fun j wr => ∃ n : Nat, n ≤ ms ∧ j = .int .i64 n ∧ (∃ d, Aside0 (Good d ∧ At g ok d wr)) ∧ Aside0 (Below w.heap.size w wr)) (fun j _ => ms - (intOf j).toNat)
  case atStart => exact ⟨0, Nat.zero_le _, rfl, ⟨_, ⟨HG6.out, HA6.out⟩⟩, HB6⟩
  case round =>
    clear HA6 HB6 HG6
    obtain ⟨n, hn, rfl, ⟨d, HA⟩, HB⟩ := hrel
    have HGD := Aside0.mk HA.out.1
    have HA0 := Aside0.mk HA.out.2
    clear HA
    by_cases hlt : n < ms
    · have hl : n < l.length := by have := HMS.out; omega
      obtain ⟨ad, Ba, ca, k0, k1, c0, c1, rfl, hb, hbC, hk, hcs, hx⟩ := script_at HC.out hl
      have HLa := Aside0.mk (HLN.out _ (List.getElem_mem hl))
      generalize l[n] = a at hb hbC hk hcs hx HLa
      obtain ⟨X, hX⟩ : ∃ X, X = ad.add (n * 9) := ⟨_, rfl⟩
      have hXe : ad.add (n * 9) = X := hX.symm
      rw [hXe] at hx
      clear hX
      have hx0 : wr.cell? X = some (.int .u8 a.kind) := pw_cell_below HB.out (hx 0 _ rfl)
      have hx1 : wr.cell? ⟨X.block, X.off + 1, none⟩ = some (.int .i64 a.file) := pw_cell_below HB.out (hx 1 _ rfl)
      have hx2 : wr.cell? ⟨X.block, X.off + 2, none⟩ = some (.int .i64 a.n) := pw_cell_below HB.out (hx 2 _ rfl)
      have hx3 : wr.cell? ⟨X.block, X.off + 3, none⟩ = some (.bool a.behind) := pw_cell_below HB.out (hx 3 _ rfl)
      have hx4 : wr.cell? ⟨X.block, X.off + 4, none⟩ = some (.slice Ba a.b.length ca) := pw_cell_below HB.out (hx 4 _ rfl)
      have hx5 : wr.cell? ⟨X.block, X.off + 5, none⟩ = some (.int .i64 k0) := pw_cell_below HB.out (hx 5 _ rfl)
      have hx6 : wr.cell? ⟨X.block, X.off + 6, none⟩ = some (.int .i64 k1) := pw_cell_below HB.out (hx 6 _ rfl)
      have hx7 : wr.cell? ⟨X.block, X.off + 7, none⟩ = some (.bool c0) := pw_cell_below HB.out (hx 7 _ rfl)
      have hx8 : wr.cell? ⟨X.block, X.off + 8, none⟩ = some (.bool c1) := pw_cell_below HB.out (hx 8 _ rfl)
      have HVa := Aside0.mk (Kd.V_below (V_arg hbC hb) HB.out)
      have HK := Aside0.mk (And.intro hk hcs)
      have hb1 := below_alloc (Below.refl _ wr) (.cells #[.int .u8 a.kind, .int .i64 a.file, .int .i64 a.n, .bool a.behind, .slice Ba a.b.length ca, .int .i64 k0, .int .i64 k1, .bool c0, .bool c1] 36)
      have HA1 := Aside0.mk (HA0.out.below hb1)
      have HB1 := Aside0.mk (HB.out.trans (hb1.mono HB.out.size))
      have HVb := Aside0.mk (Kd.V_below HVa.out hb1)
      have hq0 := Blk.At.new wr #[.int .u8 a.kind, .int .i64 a.file, .int .i64 a.n, .bool a.behind, .slice Ba a.b.length ca, .int .i64 k0, .int .i64 k1, .bool c0, .bool c1] 36
      have HQb := Aside0.mk hq0
      have en : wrap64 ((n : Int) + 1) = ((n + 1 : Nat) : Int) := w64n (by have := HMS.out; omega)
      clear hx hb hbC hk hcs HVa hb1 hq0
      go_wp2_with fail
      refine (disk_Read.at HA1.out HGD.out false).mono ?_
      rintro e w7 ⟨x, rfl, hM, hb⟩
      have HX7 := Aside0.mk hM
      have HA7 := Aside0.mk (HA1.out.below hb)
      have HB7 := Aside0.mk (HB1.out.trans (hb.mono HB1.out.size))
      have HV7 := Aside0.mk (Kd.V_below HVb.out hb)
      have HQ7 := Aside0.mk (HQb.out.below hb HQb.out.lt)
      clear hM hb HA1 HB1 HVb HQb hx0 hx1 hx2 hx3 hx4 hx5 hx6 hx7 hx8
      go_wp2_with fail
      refine (disk_Read.at HA7.out HGD.out true).mono ?_
      rintro e w8 ⟨y, rfl, hM, hb⟩
      have HY8 := Aside0.mk hM
      have HX8 := Aside0.mk (HX7.out.below hb)
      have HA8 := Aside0.mk (HA7.out.below hb)
      have HB8 := Aside0.mk (HB7.out.trans (hb.mono HB7.out.size))
      have HV8 := Aside0.mk (Kd.V_below HV7.out hb)
      have HQ8 := Aside0.mk (HQ7.out.below hb HQ7.out.lt)
      clear hM hb HA7 HB7 HV7 HQ7 HX7
      go_wp2_with fail
      refine (disk_Root.at HA8.out HGD.out.room.pos).mono ?_
      rintro e w9 ⟨rfl, rfl⟩
      go_wp2_with fail
      refine (disk_Left.calls HA8.out HGD.out.room).mono ?_
      rintro e w10 ⟨rfl, hb⟩
      obtain ⟨lf, hlf⟩ : ∃ lf : Int, lf = d.room - d.a.now.length - d.b.now.length := ⟨_, rfl⟩
      have HLF := Aside0.mk hlf
      rw [← hlf]
      have HY10 := Aside0.mk (HY8.out.below hb)
      have HX10 := Aside0.mk (HX8.out.below hb)
      have HA10 := Aside0.mk (HA8.out.below hb)
      have HB10 := Aside0.mk (HB8.out.trans (hb.mono HB8.out.size))
      have HV10 := Aside0.mk (Kd.V_below HV8.out hb)
      have HQ10 := Aside0.mk (HQ8.out.below hb HQ8.out.lt)
      clear hb HA8 HB8 HV8 HQ8 HX8 HY8 hlf
      go_wp2_with fail
      refine (disk_On.calls HA10.out HGD.out.room.pos).mono ?_
      rintro e w11 ⟨rfl, rfl⟩
      have z0 : w11.cell? ⟨wr.heap.size, 0, none⟩ = some (.int .u8 a.kind) := HQ10.out.cell 0
      have z1 : w11.cell? ⟨wr.heap.size, 1, none⟩ = some (.int .i64 a.file) := HQ10.out.cell 1
      have z2 : w11.cell? ⟨wr.heap.size, 2, none⟩ = some (.int .i64 a.n) := HQ10.out.cell 2
      have z3 : w11.cell? ⟨wr.heap.size, 3, none⟩ = some (.bool a.behind) := HQ10.out.cell 3
      have z4 : w11.cell? ⟨wr.heap.size, 4, none⟩ = some (.slice Ba a.b.length ca) := HQ10.out.cell 4
      have z5 : w11.cell? ⟨wr.heap.size, 5, none⟩ = some (.int .i64 k0) := HQ10.out.cell 5
      have z6 : w11.cell? ⟨wr.heap.size, 6, none⟩ = some (.int .i64 k1) := HQ10.out.cell 6
      have z7 : w11.cell? ⟨wr.heap.size, 7, none⟩ = some (.bool c0) := HQ10.out.cell 7
      have z8 : w11.cell? ⟨wr.heap.size, 8, none⟩ = some (.bool c1) := HQ10.out.cell 8
      have hd : Calls Try.prog 12 #[.pointer (some ⟨g, 0, none⟩), .agg #[.int .u8 a.kind, .int .i64 a.file, .int .i64 a.n, .bool a.behind, .slice Ba a.b.length ca, .int .i64 k0, .int .i64 k1, .bool c0, .bool c1]] w11 fun e w' => e = .returned (.int .i64 (doesE a d)) ∧ At g ok (doesD a d) w' ∧ Tn g w11 w' :=
        law_does.calls (okb := fun k => k < w.heap.size) HA10.out HGD.out a Ba ca k0 k1 c0 c1 HK.out.1 HK.out.2 HV10.out (by rw [HGE.out]; omega)
      have HSD := Aside0.mk (fun h1 h2 => same_does (a := a) (d := d) h1 h2)
      have HGD2 := Aside0.mk (good_does HGD.out a HLa.out)
      obtain ⟨E, hE⟩ : ∃ E, E = doesE a d := ⟨_, rfl⟩
      obtain ⟨D2, hD2⟩ : ∃ D2, D2 = doesD a d := ⟨_, rfl⟩
      rw [← hE, ← hD2] at hd
      rw [← hE, ← hD2] at HSD
      rw [← hD2] at HGD2
      have HD := Aside0.mk hd
      clear hd hE hD2
      go_wp2_with fail
      refine HD.out.mono ?_
      rintro e w12 ⟨rfl, hA, hT⟩
      have HA12 := Aside0.mk hA
      have HB12 := Aside0.mk (hT.base HB10.out (by rw [HGE.out]; exact Nat.le_refl _) HB10.out.size)
      have HX12 := Aside0.mk (HX10.out.tn hT)
      have HY12 := Aside0.mk (HY10.out.tn hT)
      clear hA hT HA10 HB10 HV10 HQ10 HX10 HY10 HD z0 z1 z2 z3 z4 z5 z6 z7 z8
      by_cases hE0 : E = 0
      · have hEb : (E == 0) = true := by simpa using hE0
        go_wp2_with fail
        rw [en]
        go_roundw
        case rel => exact ⟨n + 1, by omega, rfl, ⟨_, ⟨HGD2.out, HA12.out⟩⟩, HB12⟩
        case measure => simp [intOf]; omega
      have hEb : (E == 0) = false := by simpa using hE0
      have HE0 := Aside0.mk hE0
      clear hE0
      go_wp2_with fail
      refine (disk_On.calls HA12.out HGD2.out.room.pos).mono ?_
      rintro e w13 ⟨rfl, rfl⟩
      by_cases hO : D2.off = d.off
      case neg =>
        have hOb : ((!d.off) == (!D2.off)) = false := by cases h1 : d.off <;> cases h2 : D2.off <;> simp_all
        clear hO
        go_wp2_with fail
        rw [en]
        go_roundw
        case rel => exact ⟨n + 1, by omega, rfl, ⟨_, ⟨HGD2.out, HA12.out⟩⟩, HB12⟩
        case measure => simp [intOf]; omega
      obtain rfl : D2 = d := HSD.out HE0.out hO
      have hOb : ((!D2.off) == (!D2.off)) = true := by simp
      clear hO
      go_wp2_with fail
      refine (disk_Read.at HA12.out HGD.out false).mono ?_
      rintro e w14 ⟨u, rfl, hM, hb⟩
      have HU14 := Aside0.mk hM
      have HX14 := Aside0.mk (HX12.out.below hb)
      have HY14 := Aside0.mk (HY12.out.below hb)
      have HA14 := Aside0.mk (HA12.out.below hb)
      have HB14 := Aside0.mk (HB12.out.trans (hb.mono HB12.out.size))
      clear hM hb HA12 HB12 HX12 HY12
      go_wp2_with fail
      refine (disk_Read.at HA14.out HGD.out true).mono ?_
      rintro e w15 ⟨v, rfl, hM, hb⟩
      have HV15 := Aside0.mk hM
      have HU15 := Aside0.mk (HU14.out.below hb)
      have HX15 := Aside0.mk (HX14.out.below hb)
      have HY15 := Aside0.mk (HY14.out.below hb)
      have HA15 := Aside0.mk (HA14.out.below hb)
      have HB15 := Aside0.mk (HB14.out.trans (hb.mono HB14.out.size))
      clear hM hb HA14 HB14 HX14 HY14 HU14
      go_wp2_with fail
      refine (disk_Root.at HA15.out HGD.out.room.pos).mono ?_
      rintro e w16 ⟨rfl, rfl⟩
      have cx := HX15.out.str
      have cy := HY15.out.str
      have cu := HU15.out.str
      have cv := HV15.out.str
      go_wp2_with fail
      refine (disk_Left.calls HA15.out HGD.out.room).mono ?_
      rintro e w17 ⟨rfl, hb⟩
      rw [← HLF.out]
      have HA17 := Aside0.mk (HA15.out.below hb)
      have HB17 := Aside0.mk (HB15.out.trans (hb.mono HB15.out.size))
      clear hb HA15 HB15 HX15 HY15 HU15 HV15 cx cy cu cv
      go_wp2_with fail
      rw [en]
      go_roundw
      case rel => exact ⟨n + 1, by omega, rfl, ⟨_, ⟨HGD.out, HA17.out⟩⟩, HB17⟩
      case measure => simp [intOf]; omega
    · obtain rfl : n = ms := by omega
      go_wp2_with fail
      obtain ⟨gz, hgz⟩ : ∃ gz, gz = wr.heap.size := ⟨_, rfl⟩
      rw [← hgz]
      have hp := heap_new wr (.cells #[.slice none 0 0, .slice none 0 0, .int .i64 0, .slice none 0 0, .slice none 0 0, .int .i64 0, .int .i64 0, .int .i64 0, .bool false, .int .i64 0, .bool false] 54) hgz
      obtain ⟨Wa, hWa⟩ : ∃ Wa, Wa = wr.alloc (.cells #[.slice none 0 0, .slice none 0 0, .int .i64 0, .slice none 0 0, .slice none 0 0, .int .i64 0, .int .i64 0, .int .i64 0, .bool false, .int .i64 0, .bool false] 54) := ⟨_, rfl⟩
      have hsa : Wa.heap.size = gz + 1 := by rw [hWa, size_alloc, hgz]
      rw [← hWa] at hp ⊢
      have hq := heap_new Wa (.cells #[.pointer none, .pointer (some ⟨gz, 0, none⟩)] 24) hsa.symm
      have hp' := Blk.At.alloc (show Blk.At gz _ 54 Wa from hp) (.cells #[.pointer none, .pointer (some ⟨gz, 0, none⟩)] 24)
      have hba : Below w.heap.size w (Wa.alloc (.cells #[.pointer none, .pointer (some ⟨gz, 0, none⟩)] 24)) := by
        have h1 : Below w.heap.size w Wa := by rw [hWa]; exact below_alloc HB.out _
        exact below_alloc h1 _
      obtain ⟨Wb, hWb⟩ : ∃ Wb, Wb = Wa.alloc (.cells #[.pointer none, .pointer (some ⟨gz, 0, none⟩)] 24) := ⟨_, rfl⟩
      have hsb : Wb.heap.size = gz + 2 := by rw [hWb, size_alloc, hsa]
      rw [← hWb] at hp' hq hba ⊢
      have HZ := Aside0.mk hp'
      have HP := Aside0.mk (show Blk.At (gz + 1) #[.pointer none, .pointer (some ⟨gz, 0, none⟩)] 24 Wb from hq)
      have HBA := Aside0.mk hba
      have HSZ := Aside0.mk hsb
      have HB00 := Aside0.mk (Below.refl Wb.heap.size Wb)
      clear hp hq hp' hba hWa hWb hsa hsb hgz HB HA0 HGD
      go_loopw [133] (fun j wq => ∃ n : Nat, n ≤ 2 ∧ j = .int .i64 n ∧ Aside0 (Below Wb.heap.size Wb wq)) (fun j _ => 2 - (intOf j).toNat)
      case atStart => exact ⟨0, by omega, rfl, HB00⟩
      case round =>
        clear HB00
        obtain ⟨n, hn, rfl, HB0⟩ := hrel
        rcases (by omega : n = 2 ∨ n = 0 ∨ n = 1) with rfl | rfl | rfl
        · go_wp2_with fail
          refine (law_alive.calls _).mono ?_
          rintro e v1 ⟨rfl, hb⟩
          have HB1 := Aside0.mk ((HBA.out.trans (HB0.out.mono HBA.out.size)).trans (hb.mono (Nat.le_trans HBA.out.size HB0.out.size)))
          clear hb
          go_wp2_with fail
          go_ret
          exact ⟨rfl, HB1.out⟩
        · have cl : wr.cell? ⟨gz + 1, 0, none⟩ = some (Value.pointer none) := (Blk.At.below HP.out HB0.out (by rw [HSZ.out]; omega)).cell 0
          have DE := Aside0.mk (show Dead (.pointer none) wr from .inl rfl)
          go_wp2_with fail
          refine (disk_Arm.dead DE.out 1 true).mono ?_
          rintro e v1 ⟨rfl, rfl⟩
          go_wp2_with fail
          refine (disk_Fail.dead DE.out).mono ?_
          rintro e v2 ⟨rfl, rfl⟩
          go_wp2_with fail
          refine (disk_Read.err (disk_file.dead DE.out 0) (by decide)).mono ?_
          rintro e v3 ⟨rfl, rfl⟩
          go_wp2_with fail
          refine (disk_Root.dead DE.out).mono ?_
          rintro e v4 ⟨rfl, rfl⟩
          go_wp2_with fail
          refine (disk_Append.err (fun W hW => disk_file.dead (DE.out.below hW) 0) (by decide)).mono ?_
          rintro e v5 ⟨rfl, hb⟩
          have DE5 := Aside0.mk (DE.out.below hb)
          have HB5 := Aside0.mk (HB0.out.trans (hb.mono HB0.out.size))
          clear hb cl DE
          go_wp2_with fail
          refine (disk_Sync.err (disk_file.dead DE5.out 0) (by decide)).mono ?_
          rintro e v6 ⟨rfl, rfl⟩
          go_wp2_with fail
          refine (disk_Truncate.err 0 (fun W hW => disk_file.dead (DE5.out.below hW) 0) (by decide)).mono ?_
          rintro e v7 ⟨rfl, hb⟩
          have DE7 := Aside0.mk (DE5.out.below hb)
          have HB7 := Aside0.mk (HB5.out.trans (hb.mono HB5.out.size))
          clear hb DE5 HB5
          go_wp2_with fail
          refine (disk_Switch.err (fun W hW => disk_file.dead (DE7.out.below hW) 0) (by decide)).mono ?_
          rintro e v8 ⟨rfl, hb⟩
          have DE8 := Aside0.mk (DE7.out.below hb)
          have HB8 := Aside0.mk (HB7.out.trans (hb.mono HB7.out.size))
          clear hb DE7 HB7
          go_wp2_with fail
          refine (disk_Start.err DE8.out 0 0 false false).mono ?_
          rintro e v9 ⟨rfl, hb⟩
          have DE9 := Aside0.mk (DE8.out.below hb)
          have HB9 := Aside0.mk (HB8.out.trans (hb.mono HB8.out.size))
          clear hb DE8 HB8
          go_wp2_with fail
          refine (disk_Left.dead DE9.out).mono ?_
          rintro e va ⟨rfl, rfl⟩
          go_wp2_with fail
          refine (disk_On.dead DE9.out).mono ?_
          rintro e vb ⟨rfl, rfl⟩
          go_wp2_with fail
          go_roundw
          case rel => exact ⟨1, by omega, rfl, HB9⟩
          case measure => simp [intOf]
        · have cl : wr.cell? ⟨gz + 1, 1, none⟩ = some (Value.pointer (some ⟨gz, 0, none⟩)) := (Blk.At.below HP.out HB0.out (by rw [HSZ.out]; omega)).cell 1
          have DE := Aside0.mk (show Dead (.pointer (some ⟨gz, 0, none⟩)) wr from dead_zero (Blk.At.below HZ.out HB0.out (by rw [HSZ.out]; omega)))
          go_wp2_with fail
          refine (disk_Arm.dead DE.out 1 true).mono ?_
          rintro e v1 ⟨rfl, rfl⟩
          go_wp2_with fail
          refine (disk_Fail.dead DE.out).mono ?_
          rintro e v2 ⟨rfl, rfl⟩
          go_wp2_with fail
          refine (disk_Read.err (disk_file.dead DE.out 0) (by decide)).mono ?_
          rintro e v3 ⟨rfl, rfl⟩
          go_wp2_with fail
          refine (disk_Root.dead DE.out).mono ?_
          rintro e v4 ⟨rfl, rfl⟩
          go_wp2_with fail
          refine (disk_Append.err (fun W hW => disk_file.dead (DE.out.below hW) 0) (by decide)).mono ?_
          rintro e v5 ⟨rfl, hb⟩
          have DE5 := Aside0.mk (DE.out.below hb)
          have HB5 := Aside0.mk (HB0.out.trans (hb.mono HB0.out.size))
          clear hb cl DE
          go_wp2_with fail
          refine (disk_Sync.err (disk_file.dead DE5.out 0) (by decide)).mono ?_
          rintro e v6 ⟨rfl, rfl⟩
          go_wp2_with fail
          refine (disk_Truncate.err 0 (fun W hW => disk_file.dead (DE5.out.below hW) 0) (by decide)).mono ?_
          rintro e v7 ⟨rfl, hb⟩
          have DE7 := Aside0.mk (DE5.out.below hb)
          have HB7 := Aside0.mk (HB5.out.trans (hb.mono HB5.out.size))
          clear hb DE5 HB5
          go_wp2_with fail
          refine (disk_Switch.err (fun W hW => disk_file.dead (DE7.out.below hW) 0) (by decide)).mono ?_
          rintro e v8 ⟨rfl, hb⟩
          have DE8 := Aside0.mk (DE7.out.below hb)
          have HB8 := Aside0.mk (HB7.out.trans (hb.mono HB7.out.size))
          clear hb DE7 HB7
          go_wp2_with fail
          refine (disk_Start.err DE8.out 0 0 false false).mono ?_
          rintro e v9 ⟨rfl, hb⟩
          have DE9 := Aside0.mk (DE8.out.below hb)
          have HB9 := Aside0.mk (HB8.out.trans (hb.mono HB8.out.size))
          clear hb DE8 HB8
          go_wp2_with fail
          refine (disk_Left.dead DE9.out).mono ?_
          rintro e va ⟨rfl, rfl⟩
          go_wp2_with fail
          refine (disk_On.dead DE9.out).mono ?_
          rintro e vb ⟨rfl, rfl⟩
          go_wp2_with fail
          go_roundw
          case rel => exact ⟨2, by omega, rfl, HB9⟩
          case measure => simp [intOf]
end Go.Proofs.Ytjiboeokockdcaa.Q

