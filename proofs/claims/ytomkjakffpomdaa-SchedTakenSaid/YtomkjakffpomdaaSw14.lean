/- The law of what is taken, walked. No condition but those typed. -/
import Derived.Test.YtomkjakffpomdaaSw13
namespace Go.Proofs.Ytomkjakffpomdaa.Q
open Go.RowKit Go.Maps Go.Sort Go.Shelf Go.Proofs.YtomkjakffpomdaaW.PrintWords Go.Proofs.YtomkjakffpomdaaW.PrintLast Go.Proofs.YtomkjakffpomdaaW.PrintMore
attribute [local go_sem] max2_int min2_int max_two min_two max_three min_three max_four min_four   -- for this text's walks alone
set_option linter.unusedVariables false
set_option linter.unusedSimpArgs false
set_option maxRecDepth 100000
/-! ### The end of the law, plain -/
/-- What is so ahead of the last Take. -/
structure Lst (u : ByteArray) (f : PF) : Prop where
  fe : ∀ k x, f k = some x → x.out < 0 ∧ x.due ≤ 1099511627776
  ls : ∃ L : List ByteArray, L.length ≤ 49 ∧ ∀ k x, f k = some x → k ∈ L
  has : ∃ y, f u = some y
theorem all_few {i : Nat} {t : Int} {f : PF} (h : Tn i t f) {all : List ByteArray} (hnd : all.Nodup) (ha : ∀ k, k ∈ all ↔ ∃ x, f k = some x ∧ everF x = true) : all.length ≤ 40 := by
  obtain ⟨L, h1, h2⟩ := h.ls
  exact Nat.le_trans (nodup_sub hnd fun k hk => by
    obtain ⟨x, hx, _⟩ := (ha k).1 hk
    exact h2 k x hx) h1
theorem fe_sync {i : Nat} {t : Int} {f : PF} (h : Tn i t f) (hi : i ≤ 80) (us : List ByteArray) : ∀ k x, syncF t f us k = some x → x.out ≤ t ∧ 0 ≤ x.fails ∧ x.fails < 1000000 ∧ x.due ≤ 1099511627776 := fun k x hx => by
  have h0 := h.t0
  rcases (syncF_some hx).2 with h2 | rfl
  · have := h.fe k x h2
    omega
  · exact ⟨by show (-1 : Int) ≤ t; omega, by show (0 : Int) ≤ 0; omega, by show (0 : Int) < _; omega, by show t ≤ _; omega⟩
theorem lst_of {i : Nat} {t : Int} {f : PF} (h : Tn i t f) (hi : i ≤ 80) {us : List ByteArray} (hl : us.length ≤ 49) {u : ByteArray} (hu : u ∈ us) {ss : List ByteArray} (hs : ∀ k, k ∈ ss ↔ ∃ x, syncF t f us k = some x ∧ lostF (t + 121) x = true) : Lst u (upds (syncF t f us) ss (dnF (t + 121) false)) := by
  have hfe := fe_sync h hi us
  refine ⟨fun k x hx => ?_, ⟨us, hl, fun k x hx => ?_⟩, ?_⟩
  · obtain ⟨y, hy, ⟨_, rfl⟩ | ⟨hk, rfl⟩⟩ := upds_some hx
    · exact ⟨by show (-1 : Int) < 0; omega, dnF_due _ _ _⟩
    · have hy' := hfe k _ hy
      refine ⟨Int.not_le.1 fun ho => hk ((hs k).2 ⟨_, hy, ?_⟩), hy'.2.2.2⟩
      unfold lostF
      simp only [Bool.and_eq_true, decide_eq_true_eq]
      omega
  · obtain ⟨y, hy, _⟩ := upds_some hx
    exact (syncF_some hy).1
  · obtain ⟨y, hy⟩ := syncF_has (t := t) (f := f) hu
    by_cases hm : u ∈ ss
    · exact ⟨_, by rw [upds_in hm, hy]; rfl⟩
    · exact ⟨y, by rw [upds_out hm, hy]⟩
theorem Lst.none {u : ByteArray} {f : PF} (h : Lst u f) {ss : List ByteArray} (hs : ∀ k, k ∈ ss ↔ ∃ x, f k = some x ∧ outF x = true) : ss = [] := by
  refine List.eq_nil_iff_forall_not_mem.2 fun k hk => ?_
  obtain ⟨x, hx, ho⟩ := (hs k).1 hk
  have := (h.fe k x hx).1
  unfold outF at ho
  simp only [decide_eq_true_eq] at ho
  omega
theorem ltr_due {t d : Int} (ht : 0 ≤ t) (hd : d ≤ 1099511627776) : d ≤ ltr t d ∧ 0 ≤ ltr t d := by
  unfold ltr
  rw [if_pos hd]
  split <;> omega
theorem Lst.take {u : ByteArray} {f : PF} (h : Lst u f) {t most : Int} (ht : 0 ≤ t) (hmost : most = 1048576) {y : Fd} (hy : f u = some y) {ss : List ByteArray} (hT : Taken (ltr t y.due) f most ss) : inU ss u = true ∧ ∃ z, upds f ss (tkF (ltr t y.due)) u = some z ∧ outF z = true := by
  obtain ⟨all, hnd, hq, rfl⟩ := hT
  obtain ⟨L, hL, hk⟩ := h.ls
  have hy2 := h.fe _ _ hy
  obtain ⟨h1, h2⟩ := ltr_due ht hy2.2
  generalize ltr t y.due = t3 at *
  have hlen : all.length ≤ 49 := Nat.le_trans (nodup_sub hnd fun k hm => by
    obtain ⟨x, hx, _⟩ := isQ_iff.1 ((hq k).1 hm)
    exact hk k x hx) hL
  have hc : cutN most all.length = all.length := by
    unfold cutN
    split <;> split <;> omega
  have hm : u ∈ all := (hq u).2 (isQ_iff.2 ⟨y, hy, by
    unfold dueF
    simp only [Bool.and_eq_true, decide_eq_true_eq]
    exact ⟨hy2.1, h1⟩⟩)
  rw [hc, List.take_length]
  refine ⟨inU_iff.2 hm, tkF t3 y, by rw [upds_in hm, hy]; rfl, ?_⟩
  unfold outF
  simp only [decide_eq_true_eq]
  exact h2
theorem was_not {f : PF} {was ls : List ByteArray} (hw : ∀ k, k ∈ was ↔ ∃ x, f k = some x ∧ outF x = true) (hl : ∀ x ∈ ls, ∃ y, f x = some y ∧ y.out < 0) {x : ByteArray} (hx : x ∈ ls) : inU was x = false := by
  rw [Bool.eq_false_iff]
  intro h
  obtain ⟨y, hy, ho⟩ := (hw x).1 (inU_iff.1 h)
  obtain ⟨z, hz, hz0⟩ := hl x hx
  rw [hy] at hz
  cases hz
  unfold outF at ho
  simp only [decide_eq_true_eq] at ho
  omega
theorem now_is {f : PF} {out ls : List ByteArray} (hw : ∀ k, k ∈ out ↔ ∃ x, f k = some x ∧ outF x = true) (hl : ∀ x ∈ ls, ∃ y, f x = some y ∧ 0 ≤ y.out) {x : ByteArray} (hx : x ∈ ls) : inU out x = true := by
  obtain ⟨z, hz, hz0⟩ := hl x hx
  refine inU_iff.2 ((hw x).2 ⟨z, hz, ?_⟩)
  unfold outF
  simp only [decide_eq_true_eq]
  exact hz0
/-- What the law knows behind i rounds. -/
structure Rd (B N i : Nat) (t : Int) (f : PF) (w0 w : World) : Prop where
  pa : PA B N (B + 1) B t f w
  nN : N ≤ i * 40
  tn : Tn i t f
  low : Below B w0 w
  size : B ≤ w.heap.size
theorem Rd.below {B N i : Nat} {t : Int} {f : PF} {w0 w w' : World} (h : Rd B N i t f w0 w) (hb : Below w.heap.size w w') : Rd B N i t f w0 w' := ⟨h.pa.below hb, h.nN, h.tn, h.low.trans (hb.mono h.size), Nat.le_trans h.size hb.size⟩
theorem Rd.few {B N i : Nat} {t : Int} {f : PF} {w0 w : World} (h : Rd B N i t f w0 w) (hi : i ≤ 80) : N ≤ 100000 := by have := h.nN; omega
def nowL (t later : Int) : Int := if 0 < later ∧ later < 100000 then t + later else t
theorem nowL_at (t later : Int) : t ≤ nowL t later ∧ nowL t later ≤ t + 100000 := by
  unfold nowL
  split <;> omega
theorem nowL_w {i : Nat} {t : Int} {f : PF} (h : Tn i t f) (hi : i ≤ 80) {later : Int} (h1 : 0 < later) (h2 : later < 100000) : wrap64 (t + later) = nowL t later := by
  have := h.t0
  unfold nowL
  rw [if_pos ⟨h1, h2⟩]
  unfold wrap64
  omega
theorem nowL_0 {t later : Int} (h : ¬ (0 < later ∧ later < 100000)) : nowL t later = t := if_neg h
theorem Ls.C {base : Nat} {w : World} {A : Option Addr} {c : Nat} {ss : List ByteArray} (h : Ls base w (.slice A ss.length c) ss) : Kd.string.C w A ss.length ss := (Kd.V_reads' (Kd.R_V (base' := 0) h)).2.2
/-- A round behind does. -/
structure Md (B N n : Nat) (t : Int) (f : PF) (w0 : World) (base : Nat) (wasv : Value) (was : List ByteArray) (base2 : Nat) (v : Value) (f0 : PF) (b : Bool) (w : World) : Prop where
  rd : Rd B N n t f w0 w
  ls : Ls base w wasv was
  wm : ∀ k, k ∈ was ↔ ∃ x, f0 k = some x ∧ outF x = true
  tk : b = true → ∃ ss, Took base2 w v f0 f ss
theorem w121 {t : Int} (h : 0 ≤ t ∧ t ≤ 1099511627776) : wrap64 (t + 120) = t + 120 ∧ wrap64 (t + 120 + 1) = t + 121 ∧ ltr t (t + 121) = ltr t (t + 121) := by
  refine ⟨?_, ?_, rfl⟩ <;> unfold wrap64 <;> omega
theorem ltr_121 {t : Int} (h : 0 ≤ t ∧ t ≤ 8000000) : ltr t (t + 121) = t + 121 := by
  unfold ltr
  rw [if_pos (by omega), if_pos (by omega)]
set_option maxHeartbeats 8000000 in
theorem law_Taken.calls {w : World} {A : Option Addr} {c : Nat} {l : List Ac} (hC : dA.C w A l.length l) (hc : l.length ≤ c) (hG : ∀ a ∈ l, (0 ≤ a.kind ∧ a.kind < 256) ∧ (∀ u ∈ a.urls, u.size ≤ maxLen) ∧ a.url.size ≤ maxLen) {u : ByteArray} (hu : u.size ≤ maxLen) :
    Calls Try.prog 4 #[.slice A l.length c, .string u] w fun e w' => e = .returned (.bool true) ∧ Below w.heap.size w w' := by
  have hN := p_New.calls w 0
  obtain ⟨B, hBe⟩ : ∃ B, B = w.heap.size := ⟨_, rfl⟩
  rw [← hBe] at hN ⊢
  have HBE := Aside0.mk hBe
  have HC := Aside0.mk hC
  have HG := Aside0.mk hG
  have HU := Aside0.mk hu
  have HCC := Aside0.mk hc
  have HS := Aside0.mk (law_short.calls (A := A) hc)
  obtain ⟨m, hm⟩ : ∃ m, m = sh l.length := ⟨_, rfl⟩
  have HM := Aside0.mk (show m ≤ l.length ∧ m ≤ 80 from by rw [hm]; unfold sh; split <;> omega)
  have HMS := Aside0.mk hm
  rw [← hm] at HS
  clear hBe hC hG hu hc hm
  go_enter Try.func4, Try.ntmps4
  go_wp2_with fail
  refine hN.mono ?_
  rintro e w1 ⟨rfl, hP, hb⟩
  have HR1 := Aside0.mk (show Rd B 0 0 0 (fun _ => none) w w1 from ⟨hP, by simp, ⟨by simp, fun k x hx => by simp at hx, [], by simp, fun k x hx => by simp at hx⟩, hb, HBE.out ▸ hb.size⟩)
  clear hP hb hN
  go_wp2_with fail
  refine (law_far.calls (Kd.C_below HC.out (HBE.out ▸ HR1.out.low)) HCC.out).mono ?_
  rintro e w2 ⟨bf, rfl, hb, hsm⟩
  have HR2 := Aside0.mk (HR1.out.below hb)
  rw [← HMS.out] at hsm
  have HSM := Aside0.mk hsm
  clear hb hsm HR1
  cases bf
  case true =>
    go_wp2_with fail
    refine (law_alive.calls _).mono ?_
    rintro e w3 ⟨rfl, hb⟩
    have HB3 := Aside0.mk (HR2.out.below hb).low
    clear hb
    go_wp2_with fail
    go_ret
    exact ⟨rfl, HB3.out⟩
  have HSN := Aside0.mk (show Small (l.take m) by first | exact HSM.out rfl | exact HSM.out trivial)
  clear HSM
  by_cases hbig : 9000 < u.size
  · have hbig' : (9000 : Int) < (u.size : Int) := by omega
    go_wp2_with fail
    refine (law_alive.calls _).mono ?_
    rintro e w3 ⟨rfl, hb⟩
    have HB3 := Aside0.mk (HR2.out.below hb).low
    clear hb
    go_wp2_with fail
    go_ret
    exact ⟨rfl, HB3.out⟩
  have hbig' : ¬ (9000 : Int) < (u.size : Int) := by omega
  clear hbig
  go_wp2_with fail
  refine (HS.out _).mono ?_
  rintro e w3 ⟨rfl, rfl⟩
  clear HS
  go_wp2_with fail
  go_loopw [37] (fun j wr => ∃ (n : Nat) (N : Nat) (t : Int) (f : PF), n ≤ m ∧ j = .int .i64 n ∧ Aside0 (Rd B N n t f w wr)) (fun j _ => m - (intOf j).toNat)
  case atStart => exact ⟨0, 0, 0, _, Nat.zero_le _, rfl, HR2⟩
  case round =>
    clear HR2 hbig'
    obtain ⟨n, N, t, f, hn, rfl, HR⟩ := hrel
    by_cases hlt : n < m
    · have hl : n < l.length := by have := HM.out; omega
      obtain ⟨ad, R, cr, rfl, hb, hbC, hx⟩ := script_at HC.out hl
      have hmem : l[n] ∈ l := List.getElem_mem hl
      have hg := HG.out _ hmem
      have h40 := HSN.out l[n] (List.mem_take_iff_getElem.2 ⟨n, by have := HM.out; omega, rfl⟩)
      have hHeap : Below w.heap.size w wr := HBE.out ▸ HR.out.low
      generalize l[n] = a at hb hbC hx hg h40
      obtain ⟨X, hX⟩ : ∃ X, X = ad.add (n * 6) := ⟨_, rfl⟩
      have hXe : ad.add (n * 6) = X := hX.symm
      rw [hXe] at hx
      clear hX hmem
      have hx0 : wr.cell? X = some (.int .u8 a.kind) := pw_cell_below hHeap (hx 0 _ rfl)
      have hx1 : wr.cell? ⟨X.block, X.off + 1, none⟩ = some (.int .i64 a.later) := pw_cell_below hHeap (hx 1 _ rfl)
      have hx2 : wr.cell? ⟨X.block, X.off + 2, none⟩ = some (.slice R a.urls.length cr) := pw_cell_below hHeap (hx 2 _ rfl)
      have hx3 : wr.cell? ⟨X.block, X.off + 3, none⟩ = some (.string a.url) := pw_cell_below hHeap (hx 3 _ rfl)
      have hx4 : wr.cell? ⟨X.block, X.off + 4, none⟩ = some (.int .i64 a.n) := pw_cell_below hHeap (hx 4 _ rfl)
      have hx5 : wr.cell? ⟨X.block, X.off + 5, none⟩ = some (.bool a.good) := pw_cell_below hHeap (hx 5 _ rfl)
      have en : wrap64 ((n : Int) + 1) = ((n + 1 : Nat) : Int) := w64n (by have := HM.out; omega)
      have HA := Aside0.mk (Blk.At.new wr (av a R cr) 39)
      have HRa := Aside0.mk (HR.out.below (below_alloc (Below.refl _ wr) (.cells (av a R cr) 39)))
      have HNW := Aside0.mk (p_Now.calls HRa.out.pa)
      have HACT := Aside0.mk (And.intro hg h40)
      have HCR := Aside0.mk hbC
      have HN80 := Aside0.mk (show n + 1 ≤ m ∧ n ≤ 80 from ⟨hlt, by have := HM.out; omega⟩)
      obtain ⟨g, hge⟩ : ∃ g, g = wr.heap.size := ⟨_, rfl⟩
      rw [← hge] at HA
      have y1 : (wr.alloc (.cells (av a R cr) 39)).cell? ⟨g, 1, none⟩ = some (.int .i64 a.later) := HA.out.cell 1
      replace hge := hge.symm
      clear hx hb hbC hg h40 hHeap
      go_wp2_with fail
      refine HNW.out.mono ?_
      rintro e w4 ⟨rfl, rfl⟩
      clear HNW hx0 hx1 hx2 hx3 hx4 hx5
      go_upto_region 8 with fail
      go_cut [50] (fun v wc => v = .bool (decide (0 < a.later ∧ a.later < 100000)) ∧ Aside0 (Blk.At g (av a R cr) 39 wc ∧ Rd B N n t f w wc))
      case first =>
        by_cases h1 : 0 < a.later
        · by_cases h2 : a.later < 100000
          · go_wp2_with fail
            go_meet
            case rel => exact ⟨by rw [decide_eq_true (And.intro h1 h2)], ⟨HA.out, HRa.out⟩⟩
          · have hd : decide (0 < a.later ∧ a.later < 100000) = false := decide_eq_false fun h => h2 h.2
            go_wp2_with fail
            go_meet
            case rel => exact ⟨by rw [hd], ⟨HA.out, HRa.out⟩⟩
        · have hd : decide (0 < a.later ∧ a.later < 100000) = false := decide_eq_false fun h => h1 h.1
          go_wp2_with fail
          go_meet
          case rel => exact ⟨by rw [hd], ⟨HA.out, HRa.out⟩⟩
      case rest =>
      as_aux_lemma =>
      clear HA HRa HR y1 hge
      obtain ⟨rfl, HA⟩ := hcut
      have y1 : wc.cell? ⟨g, 1, none⟩ = some (.int .i64 a.later) := HA.out.1.cell 1
      generalize hcd : decide (0 < a.later ∧ a.later < 100000) = cd
      have HCD := Aside0.mk hcd
      clear hcd
      go_upto_if 50 with fail
      go_cut [8] (fun v wd => v = .int .i64 (nowL t a.later) ∧ Aside0 (Blk.At g (av a R cr) 39 wd ∧ Rd B N n t f w wd))
      case first =>
        cases cd
        · have hw := nowL_0 (t := t) (of_decide_eq_false HCD.out)
          go_wp2_with fail
          go_meet
          case rel => exact ⟨by rw [hw], HA⟩
        · have hw := nowL_w HA.out.2.tn HN80.out.2 (of_decide_eq_true HCD.out).1 (of_decide_eq_true HCD.out).2
          go_wp2_with fail
          go_meet
          case rel => exact ⟨by rw [← hw], HA⟩
      case rest =>
      as_aux_lemma =>
      clear HA y1
      obtain ⟨rfl, HA⟩ := hcut
      have HOU := Aside0.mk (p_Out.calls HA.out.2.pa (HA.out.2.few HN80.out.2))
      go_wp2_with fail
      refine HOU.out.mono ?_
      rintro e w4 ⟨v4, was, rfl, hS, hb⟩
      have hAt := HA.out.1.below hb HA.out.1.lt
      have HR4 := Aside0.mk (HA.out.2.below hb)
      have HW4 := Aside0.mk (And.intro hS.1 hS.2.2.1)
      have HAT := Aside0.mk hAt
      have y0 : w4.cell? ⟨g, 0, none⟩ = some (.int .u8 a.kind) := hAt.cell 0
      have y1 : w4.cell? ⟨g, 1, none⟩ = some (.int .i64 a.later) := hAt.cell 1
      have y2 : w4.cell? ⟨g, 2, none⟩ = some (.slice R a.urls.length cr) := hAt.cell 2
      have y3 : w4.cell? ⟨g, 3, none⟩ = some (.string a.url) := hAt.cell 3
      have y4 : w4.cell? ⟨g, 4, none⟩ = some (.int .i64 a.n) := hAt.cell 4
      have y5 : w4.cell? ⟨g, 5, none⟩ = some (.bool a.good) := hAt.cell 5
      have HD := Aside0.mk (law_does.calls HR4.out.pa HR4.out.nN HR4.out.tn (nowL_at t a.later) HN80.out.2 HR4.out.size a R cr HACT.out.1.1 HACT.out.2 (fun w' hk => Kd.C_below HCR.out (HBE.out ▸ hk.base HR4.out.low HR4.out.size)) HACT.out.1.2.1 HACT.out.1.2.2)
      clear hS hb hAt HA HOU
      go_wp2_with fail
      refine HD.out.mono ?_
      rintro e w5 ⟨v5, n5, N5, f5, rfl, hP, hN5, hT5, hK, htk⟩
      have z0 : w5.cell? ⟨g, 0, none⟩ = some (.int .u8 a.kind) := (At.kp HAT.out (by decide) (by decide) hK).cell 0
      have HK5 := Aside0.mk (show ∀ b : Bool, (b = true → Int.tmod a.kind 5 = 1 ∨ Int.tmod a.kind 5 = 4) → Md B N5 (n + 1) (nowL t a.later) f5 w wc.heap.size v4 was w4.heap.size v5 f b w5 from fun b hb => ⟨⟨hP, hN5, hT5, hK.base HR4.out.low HR4.out.size, Nat.le_trans HR4.out.size hK.size⟩, Ls.kp HW4.out.1 hK, HW4.out.2, fun h => htk (hb h)⟩)
      clear hP hN5 hT5 hK htk HD HR4 HW4 HAT y0 y1 y2 y3 y4 y5
      go_upto_region 13 with fail
      go_cut [72] (fun v wc2 => ∃ b : Bool, v = .bool b ∧ Aside0 (Md B N5 (n + 1) (nowL t a.later) f5 w wc.heap.size v4 was w4.heap.size v5 f b wc2))
      case first =>
        rcases tm5 HACT.out.1.1 with hr | hr | hr | hr | hr
        · go_wp2_with fail
          go_meet
          case rel => exact ⟨false, rfl, ⟨HK5.out _ (fun h => by cases h)⟩⟩
        · go_wp2_with fail
          go_meet
          case rel => exact ⟨true, rfl, ⟨HK5.out _ (fun h => .inl hr)⟩⟩
        · go_wp2_with fail
          go_meet
          case rel => exact ⟨false, rfl, ⟨HK5.out _ (fun h => by cases h)⟩⟩
        · go_wp2_with fail
          go_meet
          case rel => exact ⟨false, rfl, ⟨HK5.out _ (fun h => by cases h)⟩⟩
        · go_wp2_with fail
          go_meet
          case rel => exact ⟨true, rfl, ⟨HK5.out _ (fun h => .inr hr)⟩⟩
      case rest =>
      as_aux_lemma =>
      clear HK5 z0
      obtain ⟨b, rfl, HMD⟩ := hcut
      cases b
      case false =>
        go_wp2_with fail
        rw [en]
        go_roundw
        case rel => exact ⟨n + 1, N5, _, f5, HN80.out.1, rfl, ⟨HMD.out.rd⟩⟩
        case measure => simp [intOf]; have := HN80.out.1; omega
      obtain ⟨ss, hss⟩ := HMD.out.tk rfl
      obtain ⟨A4, c4, rfl⟩ := Kd.R_slice HMD.out.ls
      obtain ⟨A5, c5, rfl⟩ := Kd.R_slice hss.ls
      have HTK := Aside0.mk hss
      have HL6 := Aside0.mk (Below.refl wc.heap.size wc)
      clear hss
      go_wp2_with fail
      go_loopw [75] (fun j wq => ∃ i : Nat, i ≤ ss.length ∧ j = .int .i64 i ∧ Aside0 (Below wc.heap.size wc wq)) (fun j _ => ss.length - (intOf j).toNat)
      case atStart => exact ⟨0, Nat.zero_le _, rfl, HL6⟩
      case round =>
        clear HL6
        obtain ⟨i, hi, rfl, HB⟩ := hrel
        by_cases hil : i < ss.length
        · have hCs := Ls.C (Ls.below HTK.out.ls HB.out)
          obtain ⟨ad5, rfl, hcs⟩ := Kd.C_strings_cells hCs (by omega)
          have hx0 : wr.cell? (ad5.add i) = some (.string ss[i]) := hcs i _ (List.getElem?_eq_getElem hil)
          have hmem : ss[i] ∈ ss := List.getElem_mem hil
          have h1 := was_not HMD.out.wm HTK.out.was hmem
          have HOI := Aside0.mk (fun (out : List ByteArray) (hw : ∀ k, k ∈ out ↔ ∃ x, f5 k = some x ∧ outF x = true) => now_is hw HTK.out.now hmem)
          have hHas := a_Has.calls (c := c4) (Ls.C (c := c4) (Ls.below HMD.out.ls HB.out)) ss[i]
          rw [h1] at hHas
          have HRq := Aside0.mk (HMD.out.rd.below HB.out)
          have HOU := Aside0.mk (p_Out.calls HRq.out.pa (by have := HRq.out.nN; have := HN80.out.2; omega))
          have hwi : wrap64 ((i : Int) + 1) = ((i + 1 : Nat) : Int) := w64n (by have := HTK.out.few; omega)
          generalize ss[i] = x at hx0 HOI hHas
          have HH := Aside0.mk hHas
          have HIL := Aside0.mk hil
          clear hCs hcs hmem h1 hHas
          go_wp2_with fail
          refine HH.out.mono ?_
          rintro e w7 ⟨rfl, rfl⟩
          go_wp2_with fail
          refine HOU.out.mono ?_
          rintro e w8 ⟨v8, out, rfl, hS, hb⟩
          obtain ⟨A8, c8, rfl⟩ := Kd.R_slice hS.1
          have hHas := a_Has.calls (c := c8) (Ls.C hS.1) x
          rw [HOI.out out hS.2.2.1] at hHas
          have HH2 := Aside0.mk hHas
          have HB8 := Aside0.mk (HB.out.trans (hb.mono HB.out.size))
          clear hS hb hHas HH HOU HRq HOI hx0
          go_wp2_with fail
          refine HH2.out.mono ?_
          rintro e w9 ⟨rfl, rfl⟩
          go_wp2_with fail
          rw [hwi]
          go_roundw
          case rel => exact ⟨i + 1, HIL.out, rfl, HB8⟩
          case measure => simp [intOf]; have := HIL.out; omega
        · obtain rfl : i = ss.length := by omega
          have HRq := Aside0.mk (HMD.out.rd.below HB.out)
          go_wp2_with fail
          rw [en]
          go_roundw
          case rel => exact ⟨n + 1, N5, _, f5, HN80.out.1, rfl, HRq⟩
          case measure => simp [intOf]; have := HN80.out.1; omega
    · obtain rfl : n = m := by omega
      clear hlt
      have ht0 := HR.out.tn.t0
      have hn80 := HM.out.2
      have hfew := HR.out.few hn80
      have HALL := Aside0.mk (p_All.calls HR.out.pa hfew)
      have HNW := Aside0.mk (p_Now.calls HR.out.pa)
      have HFW := Aside0.mk (show N ≤ 3200 by have := HR.out.nN; omega)
      have HN80 := Aside0.mk hn80
      have HT0 := Aside0.mk (show 0 ≤ t ∧ t ≤ 8000000 by omega)
      clear ht0 hn80 hfew
      go_wp2_with fail
      refine HNW.out.mono ?_
      rintro e w3 ⟨rfl, rfl⟩
      clear HNW
      go_wp2_with fail
      refine HALL.out.mono ?_
      rintro e w4 ⟨v4, all, rfl, hS, hb⟩
      have HL4 := Aside0.mk hS.1
      have HB4 := Aside0.mk hb
      have HAL := Aside0.mk (And.intro hS.2.1 hS.2.2)
      have HLEN := Aside0.mk (show (all.length + 1) * 16 ≤ 140737488355328 by have := hS.2.2.2.1; have := HFW.out; omega)
      clear hS hb HALL
      go_wp2_with (at_builtin; refine Kd.R_append Kd.string (w0 := w3) w3.heap.size rfl (.tmp 95) (.tmp 97) 29 9 (.string ByteArray.empty) 16 rfl Try.underlying29 info9 rfl (by decide) (by decide) v4 all u [.string u] (fun _ => True) (fun k => some k ≠ v4.ownBlock) rfl rfl rfl (fun k hk => ⟨trivial, hk⟩) (fun _ _ => trivial) HL4.out HB4.out HB4.out.size HLEN.out ?_; intro v1 w5 ho hb hg hat; have HO5 := Aside0.mk ho; have HB5 := Aside0.mk hb; clear ho hb hg hat)
      obtain ⟨A5, c5, rfl⟩ := Kd.R_slice HO5.out
      have HR5 := Aside0.mk (HR.out.below HB5.out)
      have hall := all_few HR.out.tn HAL.out.1 HAL.out.2.1
      have hSy := p_Sync.calls HR5.out.pa t (A := A5) (c := c5) (us := all ++ [u]) (fun w' hk => Ls.C (Ls.kp HO5.out hk)) (fun k hk => by
        rcases List.mem_append.1 hk with h | h
        · exact HAL.out.2.2.2 k h
        · rw [List.mem_singleton.1 h]; exact HU.out) (by have := HFW.out; simp only [List.length_append, List.length_singleton]; omega)
      rw [ltr_self] at hSy
      have HSY := Aside0.mk hSy
      have HLL := Aside0.mk (show (all ++ [u]).length ≤ 49 by simp only [List.length_append, List.length_singleton]; omega)
      clear hSy hall
      refine HSY.out.mono ?_
      rintro e w6 ⟨rfl, hP, hK⟩
      have HR6 := Aside0.mk (show PA B (N + (all ++ [u]).length) (B + 1) B t (syncF t f (all ++ [u])) w6 ∧ Below B w w6 ∧ B ≤ w6.heap.size from ⟨hP, hK.base HR5.out.low HR5.out.size, Nat.le_trans HR5.out.size hK.size⟩)
      have HN2 := Aside0.mk (show N + (all ++ [u]).length ≤ 100000 by have := HLL.out; have := HFW.out; omega)
      have HFE := Aside0.mk (fe_sync HR.out.tn HN80.out (all ++ [u]))
      have HNW := Aside0.mk (p_Now.calls HR6.out.1)
      obtain ⟨e1, e2, _⟩ := w121 (t := t) (by have := HT0.out; omega)
      have hLt := p_Late.calls HR6.out.1 HN2.out (t + 121) (by have := HT0.out; omega) (fun k x hx => by have := HFE.out k x hx; omega)
      rw [ltr_121 HT0.out] at hLt
      have HLT := Aside0.mk hLt
      clear hP hK hLt HSY
      go_wp2_with fail
      refine HNW.out.mono ?_
      rintro e w7 ⟨rfl, rfl⟩
      clear HNW
      go_wp2_with fail
      refine HLT.out.mono ?_
      rintro e w8 ⟨v8, lost, rfl, hS, hP, hK⟩
      have HLS := Aside0.mk (lst_of HR.out.tn HN80.out HLL.out (List.mem_append_right all (List.mem_singleton_self u)) hS.2.2.1)
      generalize upds (syncF t f (all ++ [u])) lost (dnF (t + 121) false) = f2 at hP HLS
      generalize N + (all ++ [u]).length = N2 at hP HN2 HR6 HLT
      have HR8 := Aside0.mk (show PA B N2 (B + 1) B (t + 121) f2 w8 ∧ Below B w w8 ∧ B ≤ w8.heap.size from ⟨hP, hK.base HR6.out.2.1 HR6.out.2.2, Nat.le_trans HR6.out.2.2 hK.size⟩)
      have HOU := Aside0.mk (p_Out.calls HR8.out.1 HN2.out)
      clear hS hP hK HLT e1 e2 HR6 HFE HR5 HO5 HB5
      go_wp2_with fail
      refine HOU.out.mono ?_
      rintro e w9 ⟨v9, out, rfl, hS, hb⟩
      obtain rfl := HLS.out.none hS.2.2.1
      obtain ⟨A9, c9, rfl⟩ := Kd.R_slice hS.1
      have HR9 := Aside0.mk (show PA B N2 (B + 1) B (t + 121) f2 w9 ∧ Below B w w9 ∧ B ≤ w9.heap.size from ⟨HR8.out.1.below hb, HR8.out.2.1.trans (hb.mono HR8.out.2.2), Nat.le_trans HR8.out.2.2 hb.size⟩)
      obtain ⟨y, hy⟩ := HLS.out.has
      have HDU := Aside0.mk (p_Due.calls HR9.out.1 HU.out hy)
      have HY := Aside0.mk hy
      clear hS hb HOU hy HR8
      go_wp2_with fail
      refine HDU.out.mono ?_
      rintro e w10 ⟨rfl, rfl⟩
      have HTA := Aside0.mk (p_Take.calls HR9.out.1 HN2.out y.due 1048576 (sort_of (i := 0) (t := 0) HLS.out.ls) HR9.out.2.2)
      clear HDU
      go_wp2_with fail
      refine HTA.out.mono ?_
      rintro e w11 ⟨v11, ss, rfl, hL, hTk, hsz, hP, hK⟩
      obtain ⟨h1, z, h2, h3⟩ := HLS.out.take (by have := HT0.out; omega) rfl HY.out hTk
      obtain ⟨A11, c11, rfl⟩ := Kd.R_slice hL
      have hHas := a_Has.calls (c := c11) (Ls.C hL) u
      rw [h1] at hHas
      have HH := Aside0.mk hHas
      have HZ := Aside0.mk (And.intro h2 h3)
      have HR11 := Aside0.mk (And.intro hP (show Below B w w11 ∧ B ≤ w11.heap.size from ⟨hK.base HR9.out.2.1 HR9.out.2.2, Nat.le_trans HR9.out.2.2 hK.size⟩))
      have HOU := Aside0.mk (p_Out.calls HR11.out.1 HN2.out)
      clear hL hTk hsz hP hK h1 h2 h3 hHas HTA HR9
      go_wp2_with fail
      refine HH.out.mono ?_
      rintro e w12 ⟨rfl, rfl⟩
      go_wp2_with fail
      refine HOU.out.mono ?_
      rintro e w13 ⟨v13, out, rfl, hS, hb⟩
      obtain ⟨A13, c13, rfl⟩ := Kd.R_slice hS.1
      have hHas := a_Has.calls (c := c13) (Ls.C hS.1) u
      rw [inU_iff.2 ((hS.2.2.1 u).2 ⟨z, HZ.out.1, HZ.out.2⟩)] at hHas
      have HH2 := Aside0.mk hHas
      have HB13 := Aside0.mk (show Below B w w13 ∧ B ≤ w13.heap.size from ⟨HR11.out.2.1.trans (hb.mono HR11.out.2.2), Nat.le_trans HR11.out.2.2 hb.size⟩)
      clear hS hb hHas HOU HH
      go_wp2_with fail
      refine HH2.out.mono ?_
      rintro e w14 ⟨rfl, rfl⟩
      go_wp2_with fail
      refine (law_alive.calls _).mono ?_
      rintro e w15 ⟨rfl, hb⟩
      have HB15 := Aside0.mk (HB13.out.1.trans (hb.mono HB13.out.2))
      clear hb
      go_wp2_with fail
      go_ret
      exact ⟨rfl, HB15.out⟩
end Go.Proofs.Ytomkjakffpomdaa.Q
