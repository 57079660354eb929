/- The law of what is good, walked. No condition but those typed. -/
import Derived.Test.YtnakiheekkpfdaaAw4
namespace Go.Proofs.Ytnakiheekkpfdaa.Q
open Go.RowKit Go.Maps Go.Sort Go.Shelf Go.Proofs.YtnakiheekkpfdaaW.PrintWords Go.Proofs.YtnakiheekkpfdaaW.PrintLast Go.Proofs.YtnakiheekkpfdaaW.PrintMore
attribute [local go_sem] max2_int min2_int max_two min_two max_three min_three max_four min_four   -- for this text's walks alone
set_option linter.unusedVariables false
set_option linter.unusedSimpArgs false
set_option maxRecDepth 100000
theorem str_eq {a b : ByteArray} (h : ¬ a = b) : (a.toList == b.toList) = false := by
  rw [ByteArray.toList_eq, ByteArray.toList_eq, beq_eq_false_iff_ne]
  exact fun e => h (ByteArray.ext (Array.toList_inj.1 e))
/-- Behind i rounds. -/
def Gd (B i p : Nat) (now : Int) (tok sc : ByteArray) (til : Int) (may : Bool) (w0 w : World) : Prop :=
  ∃ N t kn qs, La B (fun _ => False) N p t kn qs w0 w ∧ Inv i N kn qs ∧ Okd kn tok sc til may ∧ 0 ≤ t ∧ t ≤ now
theorem inv_tot {i N : Nat} {kn : KF} {qs : AF} (h : Inv i N kn qs) (hi : i ≤ 100) : ∃ n, Tot qs n ∧ n ≤ 1000000 ∧ N ≤ 100000 ∧ N < 256 := by
  obtain ⟨n, h1, h2⟩ := h.tot
  exact ⟨n, h1, by omega, by have := h.nN; omega, by have := h.nN; omega⟩
theorem gd_n {n m k : Nat} (h : n < m) (hm : m ≤ k ∧ m ≤ 100) : n + 1 ≤ m ∧ n ≤ 99 := by omega
theorem gd_t {t T : Int} {n : Nat} (h : t ≤ T) (hT : T ≤ (n : Int) * 100000) : t ≤ (n : Int) * 100000 := by omega
theorem gd_s {t : Int} {n : Nat} (h : 0 ≤ t ∧ t ≤ (n : Int) * 100000) (hn : n ≤ 99) : 0 ≤ t ∧ t ≤ 10000000 := by omega
theorem gd_now {t now : Int} {n : Nat} (h : 0 ≤ t ∧ t ≤ (n : Int) * 100000) (hn : n ≤ 99) (hw : t ≤ now ∧ now ≤ t + 100000) : 0 ≤ t ∧ t ≤ now ∧ now ≤ 1099511627776 ∧ now ≤ ((n + 1 : Nat) : Int) * 100000 := by omega
theorem gd_w {t now q : Int} (h : 0 ≤ t ∧ t ≤ now ∧ now ≤ 1099511627776) (hq : 0 ≤ q ∧ q ≤ 300) : wrap64 (now + q) = now + q := by
  unfold wrap64
  omega
theorem gd_below {B i p : Nat} {now til : Int} {tok sc : ByteArray} {may : Bool} {w0 w w' : World} (h : Gd B i p now tok sc til may w0 w) (hb : Below w.heap.size w w') : Gd B i p now tok sc til may w0 w' := by
  obtain ⟨N, t, kn, qs, h1, h2⟩ := h
  exact ⟨N, t, kn, qs, h1.below hb, h2⟩
theorem gd_check {B i N p : Nat} {t now til : Int} {kn : KF} {qs : AF} {tok sc : ByteArray} {may : Bool} {w0 w : World} (h : La B (fun _ => False) N p t kn qs w0 w) (hI : Inv i N kn qs) (hO : Okd kn tok sc til may) (hi : i ≤ 100) (ht : 0 ≤ t ∧ t ≤ now ∧ now ≤ 1099511627776) {text : ByteArray} (hs : text.size ≤ maxLen) (s2 : ByteArray) (x : Int) :
    Calls Try.prog 15 #[.pointer (some ⟨p, 0, none⟩), .int .i64 now, .string text, .string s2, .int .i64 x] w fun e w' => (∃ a b : Int, e = .returned (.tuple #[.int .i64 a, .int .i64 b])) ∧ Gd B (i + 1) p now tok sc til may w0 w' := by
  have hl := ltr_next ht.2.1 ht.2.2
  obtain ⟨n, h1, h2, h3, h4⟩ := inv_tot hI hi
  by_cases hv : verd (expd (ltr t now) kn) text s2 = 4
  · by_cases h64 : n = 64
    · have hc := p_Check1.calls h.da (h64 ▸ h1) now hs s2 x hv
      rw [hl] at hc
      exact hc.mono fun e w' ⟨e1, e2, e3⟩ => ⟨⟨_, _, e1⟩, _, _, _, _, h.next0 e2 e3, (hI.expd _).up, hO.expd _, by omega, Int.le_refl _⟩
    · have hc := p_Check2.calls h.da h1 h64 h2 h3 now hs s2 x hv
      rw [hl] at hc hv
      exact hc.mono fun e w' ⟨e1, e2, e3⟩ => ⟨⟨_, _, e1⟩, _, _, _, _, h.next e2 e3, (hI.expd _).check hv x, hO.expd _, by omega, Int.le_refl _⟩
  · have hc := p_Check0.calls h.da now hs s2 x hv
    rw [hl] at hc
    exact hc.mono fun e w' ⟨e1, e2, e3⟩ => ⟨⟨_, _, e1⟩, _, _, _, _, h.next0 e2 e3, (hI.expd _).up, hO.expd _, by omega, Int.le_refl _⟩
theorem gd_drop {B i N p : Nat} {t now til : Int} {kn : KF} {qs : AF} {tok sc : ByteArray} {may : Bool} {w0 w : World} (h : La B (fun _ => False) N p t kn qs w0 w) (hI : Inv i N kn qs) (hO : Okd kn tok sc til may) (hi : i ≤ 100) (ht : 0 ≤ t ∧ t ≤ now ∧ now ≤ 1099511627776) (x : Int) :
    Calls Try.prog 14 #[.pointer (some ⟨p, 0, none⟩), .int .i64 x] w fun e w' => (∃ b : Bool, e = .returned (.bool b)) ∧ Gd B (i + 1) p now tok sc til may w0 w' := by
  obtain ⟨n, h1, h2, h3, h4⟩ := inv_tot hI hi
  exact (p_Drop.calls h.da h1 h2 h3 x).mono fun e w' ⟨n', e1, _, e2, e3⟩ => ⟨⟨_, e1⟩, _, _, _, _, h.next0 e2 e3, (hI.drop x).up, hO, ht.1, ht.2.1⟩
/-- What Told leaves, as the law asks it. -/
def ToldG (B i p : Nat) (now : Int) (tok sc : ByteArray) (til : Int) (may : Bool) (a : Ac) (w0 w : World) (e : Ending) (w' : World) : Prop :=
  ∃ (v : Value) (y : Int), e = .returned (.tuple #[v, .int .i64 y]) ∧ Ku (fun i => B ≤ i) w w' ∧ (((y == 0) = false ∧ Gd B (i + 1) p now tok sc til may w0 w') ∨ (y = 0 ∧ a.sc.size ≤ 100000 ∧ (a.tok ≠ tok → Gd B (i + 1) p now tok sc til may w0 w') ∧ (a.tok = tok → Gd B (i + 1) p now tok sc (now + keepL a.left) (mayT a.good a.sc sc) w0 w')))
theorem gd_told {B i N p : Nat} {t now til : Int} {kn : KF} {qs : AF} {tok sc : ByteArray} {may : Bool} {w0 w : World} (h : La B (fun _ => False) N p t kn qs w0 w) (hI : Inv i N kn qs) (hO : Okd kn tok sc til may) (hi : i ≤ 100) (ht : 0 ≤ t ∧ t ≤ now ∧ now ≤ 1099511627776) {a : Ac} (hs : a.tok.size ≤ maxLen) (hsm : cl9 a.tok + cl9 a.sc ≤ 9000) :
    Calls Try.prog 11 #[.pointer (some ⟨p, 0, none⟩), .int .i64 now, .string a.tok, .bool a.good, .string a.sc, .int .i64 a.left] w fun e w' => ToldG B i p now tok sc til may a w0 w e w' := by
  have hl := ltr_next ht.2.1 ht.2.2
  obtain ⟨n, h1, h2, h3, h4⟩ := inv_tot hI hi
  cases hq : qs a.tok with
  | none =>
    have hc := p_Told0.calls h.da now hs a.good a.sc a.left hq
    rw [hl] at hc
    exact hc.mono fun e w' ⟨e1, e2, e3⟩ => ⟨_, _, e1, e3.mono fun i hi => hi.1, .inl ⟨rfl, _, _, _, _, h.next0 e2 e3, (hI.expd _).up, hO.expd _, by omega, Int.le_refl _⟩⟩
  | some q =>
    have hk := hI.key _ _ hq
    have hsc := sc_small hsm hk.1
    have hc := p_Told1.calls h.da h4 now hs a.good hsc a.left hq (by omega)
    rw [hl] at hc
    refine hc.mono fun e w' ⟨v, e1, _, e2, e3⟩ => ⟨_, _, e1, e3.mono fun i hi => hi.1, .inr ⟨rfl, hsc, fun hne => ?_, fun he => ?_⟩⟩
    · exact ⟨_, _, _, _, h.next0 e2 e3, (hI.expd _).told _ _ _, (hO.expd _).other hne _ _, by omega, Int.le_refl _⟩
    · refine ⟨_, _, _, _, h.next0 e2 e3, (hI.expd _).told _ _ _, ?_, by omega, Int.le_refl _⟩
      rw [he]
      exact Okd.told (expd_of_none (he ▸ hk.2)) _ _ _ _
set_option maxHeartbeats 16000000 in
theorem law_Good.calls {w : World} {A : Option Addr} {c : Nat} {l : List Ac} (hC : dA.C w A l.length l) (hc : l.length ≤ c) (hG : ∀ a ∈ l, (0 ≤ a.kind ∧ a.kind < 256) ∧ a.tok.size ≤ maxLen) {tok sc : ByteArray} (htok : tok.size ≤ maxLen) :
    Calls Try.prog 3 #[.slice A l.length c, .string tok, .string sc] w fun e w' => e = .returned (.bool true) ∧ Below w.heap.size w w' := by
  have hN := p_New.calls w 0
  obtain ⟨B, hBe⟩ : ∃ B, B = w.heap.size := ⟨_, rfl⟩
  have HBE := Aside0.mk hBe
  have HC := Aside0.mk hC
  have HG := Aside0.mk hG
  have HT := Aside0.mk htok
  have HCC := Aside0.mk hc
  have HS := Aside0.mk (law_short.calls (A := A) hc)
  obtain ⟨m, hm⟩ : ∃ m, m = sh l.length := ⟨_, rfl⟩
  have HM := Aside0.mk (show m ≤ l.length ∧ m ≤ 100 from by rw [hm]; unfold sh; split <;> omega)
  have HMS := Aside0.mk hm
  rw [← hm] at HS
  clear hBe hC hG htok hc hm
  go_enter Try.func3, Try.ntmps3
  go_wp2_with fail
  refine hN.mono ?_
  rintro e w1 ⟨rfl, hP, hb⟩
  have hLa := La.new hP hb
  rw [← HBE.out] at hLa ⊢
  have HL1 := Aside0.mk hLa
  clear hP hb hN hLa
  go_wp2_with fail
  refine (law_far.calls (Kd.C_below HC.out (HBE.out ▸ HL1.out.low)) HCC.out).mono ?_
  rintro e w2 ⟨bf, rfl, hb, hsm⟩
  have HL2 := Aside0.mk (HL1.out.below hb)
  rw [← HMS.out] at hsm
  have HSM := Aside0.mk hsm
  clear hb hsm HL1
  cases bf
  case true =>
    go_wp2_with fail
    refine (law_alive.calls _).mono ?_
    rintro e w3 ⟨rfl, hb⟩
    have HB3 := Aside0.mk (HL2.out.below hb).low
    clear hb
    go_wp2_with fail
    go_ret
    exact ⟨rfl, HBE.out ▸ HB3.out⟩
  have HSN := Aside0.mk (show Small (l.take m) by first | exact HSM.out rfl | exact HSM.out trivial)
  clear HSM
  by_cases hbig : 9000 < tok.size
  · have hbig' : (9000 : Int) < (tok.size : Int) := by omega
    go_wp2_with fail
    refine (law_alive.calls _).mono ?_
    rintro e w3 ⟨rfl, hb⟩
    have HB3 := Aside0.mk (HL2.out.below hb).low
    clear hb
    go_wp2_with fail
    go_ret
    exact ⟨rfl, HBE.out ▸ HB3.out⟩
  have hbig' : ¬ (9000 : Int) < (tok.size : Int) := by omega
  clear hbig
  by_cases hbig2 : 9000 < sc.size
  · have hbig2' : (9000 : Int) < (sc.size : Int) := by omega
    go_wp2_with fail
    refine (law_alive.calls _).mono ?_
    rintro e w3 ⟨rfl, hb⟩
    have HB3 := Aside0.mk (HL2.out.below hb).low
    clear hb
    go_wp2_with fail
    go_ret
    exact ⟨rfl, HBE.out ▸ HB3.out⟩
  have hbig2' : ¬ (9000 : Int) < (sc.size : Int) := by omega
  clear hbig2
  go_wp2_with fail
  refine (HS.out _).mono ?_
  rintro e w3 ⟨rfl, rfl⟩
  have HR0 := Aside0.mk (show Gd B 0 (B + 2) 0 tok sc 0 false w w3 from ⟨0, 0, _, _, HL2.out, ⟨Nat.le_refl _, ⟨0, Tot.none_, Nat.le_refl _⟩, fun k l h => by (cases h)⟩, fun x hx => by (cases hx), Int.le_refl _, Int.le_refl _⟩)
  clear HS HL2
  go_wp2_with fail
  go_loopw [41, 8, 9] (fun j v b wr => ∃ (n : Nat) (til T : Int) (may : Bool), n ≤ m ∧ j = .int .i64 n ∧ v = .int .i64 til ∧ b = .bool may ∧ T ≤ (n : Int) * 100000 ∧ Aside0 (Gd B n (B + 2) T tok sc til may w wr)) (fun j _ _ _ => m - (intOf j).toNat)
  case atStart => exact ⟨0, 0, 0, false, Nat.zero_le _, rfl, rfl, rfl, by simp, HR0⟩
  case round =>
    clear HR0 hbig' hbig2'
    obtain ⟨n, til, T, may, hn, rfl, rfl, rfl, hT, HR⟩ := hrel
    obtain ⟨N, t, kn, qs, hLa, hInv, hOk, ht0, htT⟩ := HR.out
    by_cases hlt : n < m
    · have hl : n < l.length := by have := HM.out; omega
      obtain ⟨ad, rfl, hx⟩ := script_at HC.out hl
      have hmem : l[n] ∈ l := List.getElem_mem hl
      have hg := HG.out _ hmem
      have hsm := HSN.out l[n] (List.mem_take_iff_getElem.2 ⟨n, by have := HM.out; omega, rfl⟩)
      have hHeap : Below w.heap.size w wr := HBE.out ▸ hLa.low
      generalize l[n] = a at hx hg hsm
      obtain ⟨X, hX⟩ : ∃ X, X = ad.add (n * 7) := ⟨_, rfl⟩
      have hXe : ad.add (n * 7) = X := hX.symm
      rw [hXe] at hx
      clear hX hmem
      have hx0 : wr.cell? X = some (.int .u8 a.kind) := pw_cell_below hHeap (hx 0 _ rfl)
      have hx1 : wr.cell? ⟨X.block, X.off + 1, none⟩ = some (.int .i64 a.later) := pw_cell_below hHeap (hx 1 _ rfl)
      have hx2 : wr.cell? ⟨X.block, X.off + 2, none⟩ = some (.string a.tok) := pw_cell_below hHeap (hx 2 _ rfl)
      have hx3 : wr.cell? ⟨X.block, X.off + 3, none⟩ = some (.string a.sc) := pw_cell_below hHeap (hx 3 _ rfl)
      have hx4 : wr.cell? ⟨X.block, X.off + 4, none⟩ = some (.bool a.good) := pw_cell_below hHeap (hx 4 _ rfl)
      have hx5 : wr.cell? ⟨X.block, X.off + 5, none⟩ = some (.int .i64 a.left) := pw_cell_below hHeap (hx 5 _ rfl)
      have hx6 : wr.cell? ⟨X.block, X.off + 6, none⟩ = some (.int .i64 a.n) := pw_cell_below hHeap (hx 6 _ rfl)
      have en : wrap64 ((n : Int) + 1) = ((n + 1 : Nat) : Int) := w64n (by have := HM.out; omega)
      have HA := Aside0.mk (Blk.At.new wr (av a) 29)
      have HLa := Aside0.mk (hLa.below (below_alloc (Below.refl _ wr) (.cells (av a) 29)))
      have HNW := Aside0.mk (p_Now.calls HLa.out.da)
      have HACT := Aside0.mk (And.intro hg hsm)
      have HN1 := Aside0.mk (show n + 1 ≤ m ∧ n ≤ 99 from gd_n hlt HM.out)
      have HINV := Aside0.mk (And.intro hInv hOk)
      have HTI := Aside0.mk (show 0 ≤ t ∧ t ≤ (n : Int) * 100000 from ⟨ht0, gd_t htT hT⟩)
      obtain ⟨g, hge⟩ : ∃ g, g = wr.heap.size := ⟨_, rfl⟩
      rw [← hge] at HA
      replace hge := hge.symm
      clear hx hg hsm hHeap hLa hInv hOk ht0 htT hT HR
      go_wp2_with fail
      refine HNW.out.mono ?_
      rintro e w4 ⟨rfl, rfl⟩
      have y1 : (wr.alloc (.cells (av a) 29)).cell? ⟨g, 1, none⟩ = some (.int .i64 a.later) := HA.out.cell 1
      clear HNW hx0 hx1 hx2 hx3 hx4 hx5 hx6
      go_upto_region 10 with fail
      go_cut [54] (fun v wc => v = .bool (decide (0 < a.later ∧ a.later < 100000)) ∧ Aside0 (Blk.At g (av a) 29 wc ∧ La B (fun _ => False) N (B + 2) t kn qs w wc))
      case first =>
        by_cases h1 : 0 < a.later
        · by_cases h2 : a.later < 100000
          · go_wp2_with fail
            go_meet
            case rel => exact ⟨by rw [decide_eq_true (And.intro h1 h2)], ⟨HA.out, HLa.out⟩⟩
          · have hd : decide (0 < a.later ∧ a.later < 100000) = false := decide_eq_false fun h => h2 h.2
            go_wp2_with fail
            go_meet
            case rel => exact ⟨by rw [hd], ⟨HA.out, HLa.out⟩⟩
        · have hd : decide (0 < a.later ∧ a.later < 100000) = false := decide_eq_false fun h => h1 h.1
          go_wp2_with fail
          go_meet
          case rel => exact ⟨by rw [hd], ⟨HA.out, HLa.out⟩⟩
      case rest =>
      as_aux_lemma =>
      clear HA HLa y1 hge
      obtain ⟨rfl, HA⟩ := hcut
      have y1 : wc.cell? ⟨g, 1, none⟩ = some (.int .i64 a.later) := HA.out.1.cell 1
      generalize hcd : decide (0 < a.later ∧ a.later < 100000) = cd
      have HCD := Aside0.mk hcd
      clear hcd
      go_upto_if 54 with fail
      go_cut [12] (fun v wd => v = .int .i64 (nowL t a.later) ∧ Aside0 (Blk.At g (av a) 29 wd ∧ La B (fun _ => False) N (B + 2) t kn qs w wd))
      case first =>
        cases cd
        · have hw := nowL_0 (t := t) (of_decide_eq_false HCD.out)
          go_wp2_with fail
          go_meet
          case rel => exact ⟨by rw [hw], HA⟩
        · have hw := nowL_w (t := t) (gd_s HTI.out HN1.out.2) (of_decide_eq_true HCD.out).1 (of_decide_eq_true HCD.out).2
          go_wp2_with fail
          go_meet
          case rel => exact ⟨by rw [← hw], HA⟩
      case rest =>
      as_aux_lemma =>
      clear HA y1 HCD
      obtain ⟨rfl, HA⟩ := hcut
      have hna := nowL_at t a.later
      generalize nowL t a.later = now at hna
      have HNOW := Aside0.mk (show 0 ≤ t ∧ t ≤ now ∧ now ≤ 1099511627776 ∧ now ≤ ((n + 1 : Nat) : Int) * 100000 from gd_now HTI.out HN1.out.2 hna)
      clear hna
      have y0 : wc.cell? ⟨g, 0, none⟩ = some (.int .u8 a.kind) := HA.out.1.cell 0
      have y2 : wc.cell? ⟨g, 2, none⟩ = some (.string a.tok) := HA.out.1.cell 2
      have y3 : wc.cell? ⟨g, 3, none⟩ = some (.string a.sc) := HA.out.1.cell 3
      have y4 : wc.cell? ⟨g, 4, none⟩ = some (.bool a.good) := HA.out.1.cell 4
      have y5 : wc.cell? ⟨g, 5, none⟩ = some (.int .i64 a.left) := HA.out.1.cell 5
      have y6 : wc.cell? ⟨g, 6, none⟩ = some (.int .i64 a.n) := HA.out.1.cell 6
      have HTM := Aside0.mk (show 0 ≤ t ∧ t ≤ now ∧ now ≤ 1099511627776 from ⟨HNOW.out.1, HNOW.out.2.1, HNOW.out.2.2.1⟩)
      have htm := tm5 HACT.out.1.1
      obtain ⟨kd, hkd⟩ : ∃ kd, Int.tmod a.kind 5 = kd := ⟨_, rfl⟩
      rw [hkd] at htm
      go_upto_block 2 with fail
      go_cut [8, 9] (fun v b wd => ∃ (til' : Int) (may' : Bool), v = .int .i64 til' ∧ b = .bool may' ∧ Aside0 (Gd B (n + 1) (B + 2) now tok sc til' may' w wd))
      case first =>
        rcases htm with rfl | rfl | rfl | rfl | rfl
        · have HCK := Aside0.mk (gd_check HA.out.2 HINV.out.1 HINV.out.2 (Nat.le_trans HN1.out.2 (by decide)) HTM.out HACT.out.1.2 a.sc a.n)
          go_wp2_with fail
          refine HCK.out.mono ?_
          rintro e w5 ⟨⟨x, y, rfl⟩, hR⟩
          have HR := Aside0.mk hR
          clear hR HCK
          go_wp2_with fail
          go_meet
          case rel => exact ⟨til, may, rfl, rfl, HR⟩
        · have HTL := Aside0.mk (gd_told HA.out.2 HINV.out.1 HINV.out.2 (Nat.le_trans HN1.out.2 (by decide)) HTM.out (a := a) HACT.out.1.2 HACT.out.2)
          go_wp2_with fail
          refine HTL.out.mono ?_
          rintro e w5 ⟨v5, yy, rfl, hK, hcase⟩
          have hat := At.ku HA.out.1 (by decide) (by decide) hK
          have z2 : w5.cell? ⟨g, 2, none⟩ = some (.string a.tok) := hat.cell 2
          have z3 : w5.cell? ⟨g, 3, none⟩ = some (.string a.sc) := hat.cell 3
          have z4 : w5.cell? ⟨g, 4, none⟩ = some (.bool a.good) := hat.cell 4
          have z5 : w5.cell? ⟨g, 5, none⟩ = some (.int .i64 a.left) := hat.cell 5
          have HAT := Aside0.mk hat
          clear hK hat HTL y0 y2 y3 y4 y5 y6
          rcases hcase with ⟨hne, hR⟩ | ⟨rfl, hsc, h1, h2⟩
          · have HR := Aside0.mk hR
            clear hR
            go_wp2_with fail
            go_meet
            case rel => exact ⟨til, may, rfl, rfl, HR⟩
          · by_cases he : a.tok = tok
            · have HRX := Aside0.mk (h2 he)
              have hb : (a.tok.toList == tok.toList) = true := by rw [he]; simp
              have HSC := Aside0.mk hsc
              obtain ⟨q, hq⟩ : ∃ q, keepL a.left = q := ⟨_, rfl⟩
              have HQQ := Aside0.mk hq
              have hqr := keepL_at a.left
              rw [hq] at hqr
              unfold keepL at hq
              have etq : wrap64 (now + q) = now + q := gd_w HTM.out hqr
              clear hqr h1 h2 hsc
              cases hgd : a.good
              · have HMB := Aside0.mk (show mayT a.good a.sc sc = false by rw [hgd]; rfl)
                rw [hgd] at z4
                clear hgd
                go_wp2_with fail
                all_goals
                  go_meet
                  case rel => exact ⟨now + q, _, by first | rfl | rw [etq], rfl, ⟨by rw [← HQQ.out, ← HMB.out]; exact HRX.out⟩⟩
              · rw [hgd] at z4
                by_cases hs0 : sc = ⟨#[]⟩
                · have HMB := Aside0.mk (show mayT a.good a.sc sc = true by unfold mayT; rw [hgd, decide_eq_true hs0]; rfl)
                  have hse : (sc.toList == []) = true := by rw [hs0, ByteArray.toList_eq]; rfl
                  clear hgd hs0
                  go_wp2_with fail
                  all_goals
                    go_meet
                    case rel => exact ⟨now + q, _, by first | rfl | rw [etq], rfl, ⟨by rw [← HQQ.out, ← HMB.out]; exact HRX.out⟩⟩
                · have hsn := str_ne hs0
                  have HM0 := Aside0.mk (show mayT a.good a.sc sc = (inU (wordsOf a.sc) sc || inU (wordsOf a.sc) star) by unfold mayT; rw [hgd, decide_eq_false hs0]; simp)
                  clear hgd hs0
                  go_wp2_with fail
                  refine (r_Words.calls HSC.out _).mono ?_
                  rintro e w6 ⟨v6, rfl, hL6, hb6⟩
                  obtain ⟨A6, c6, rfl⟩ := Kd.R_slice hL6
                  have HX6 := Aside0.mk (gd_below HRX.out hb6)
                  have HAT6 := Aside0.mk (HAT.out.below hb6 HAT.out.lt)
                  have q3 : w6.cell? ⟨g, 3, none⟩ = some (.string a.sc) := HAT6.out.cell 3
                  have q5 : w6.cell? ⟨g, 5, none⟩ = some (.int .i64 a.left) := HAT6.out.cell 5
                  have HH := Aside0.mk (a_Has.calls (c := c6) (Ls.C hL6) sc)
                  clear hL6 hb6 z2 z3 z4 z5 HRX HAT
                  go_wp2_with fail
                  refine HH.out.mono ?_
                  rintro e w7 ⟨rfl, rfl⟩
                  clear HH
                  cases hi1 : inU (wordsOf a.sc) sc
                  · rw [hi1] at HM0
                    go_wp2_with fail
                    refine (r_Words.calls HSC.out _).mono ?_
                    rintro e w8 ⟨v8, rfl, hL8, hb8⟩
                    obtain ⟨A8, c8, rfl⟩ := Kd.R_slice hL8
                    have HRX := Aside0.mk (gd_below HX6.out hb8)
                    have p5 : w8.cell? ⟨g, 5, none⟩ = some (.int .i64 a.left) := (HAT6.out.below hb8 HAT6.out.lt).cell 5
                    have HH := Aside0.mk (a_Has.calls (c := c8) (Ls.C hL8) star)
                    clear hL8 hb8 q3 q5 HX6 HAT6
                    go_wp2_with fail
                    refine HH.out.mono ?_
                    rintro e w9 ⟨rfl, rfl⟩
                    clear HH
                    have HMB := Aside0.mk (show mayT a.good a.sc sc = inU (wordsOf a.sc) star by rw [HM0.out]; rfl)
                    go_wp2_with fail
                    all_goals
                      go_meet
                      case rel => exact ⟨now + q, _, by first | rfl | rw [etq], rfl, ⟨by rw [← HQQ.out, ← HMB.out]; exact HRX.out⟩⟩
                  · rw [hi1] at HM0
                    have HRX := HX6
                    have HMB := Aside0.mk (show mayT a.good a.sc sc = true by rw [HM0.out]; rfl)
                    clear hi1
                    go_wp2_with fail
                    all_goals
                      go_meet
                      case rel => exact ⟨now + q, _, by first | rfl | rw [etq], rfl, ⟨by rw [← HQQ.out, ← HMB.out]; exact HRX.out⟩⟩
            · have HR := Aside0.mk (h1 he)
              have hb : (a.tok.toList == tok.toList) = false := str_eq he
              clear h1 h2 he
              go_wp2_with fail
              go_meet
              case rel => exact ⟨til, may, rfl, rfl, HR⟩
        · have HCK := Aside0.mk (gd_check HA.out.2 HINV.out.1 HINV.out.2 (Nat.le_trans HN1.out.2 (by decide)) HTM.out HACT.out.1.2 a.sc a.n)
          go_wp2_with fail
          refine HCK.out.mono ?_
          rintro e w5 ⟨⟨x, y, rfl⟩, hR⟩
          have HR := Aside0.mk hR
          clear hR HCK
          go_wp2_with fail
          go_meet
          case rel => exact ⟨til, may, rfl, rfl, HR⟩
        · have HCK := Aside0.mk (gd_drop HA.out.2 HINV.out.1 HINV.out.2 (Nat.le_trans HN1.out.2 (by decide)) HTM.out a.n)
          go_wp2_with fail
          refine HCK.out.mono ?_
          rintro e w5 ⟨⟨x, rfl⟩, hR⟩
          have HR := Aside0.mk hR
          clear hR HCK
          go_wp2_with fail
          go_meet
          case rel => exact ⟨til, may, rfl, rfl, HR⟩
        · have HCK := Aside0.mk (gd_check HA.out.2 HINV.out.1 HINV.out.2 (Nat.le_trans HN1.out.2 (by decide)) HTM.out HACT.out.1.2 a.sc a.n)
          go_wp2_with fail
          refine HCK.out.mono ?_
          rintro e w5 ⟨⟨x, y, rfl⟩, hR⟩
          have HR := Aside0.mk hR
          clear hR HCK
          go_wp2_with fail
          go_meet
          case rel => exact ⟨til, may, rfl, rfl, HR⟩
      case rest =>
      as_aux_lemma =>
      clear HA HINV y0 y2 y3 y4 y5 y6 hkd htm
      obtain ⟨til', may', rfl, rfl, HR⟩ := hcut
      obtain ⟨N', t', kn', qs', hLa, hInv, hOk, h0, hT⟩ := HR.out
      have hV := p_Verdict.calls hLa.da now HT.out sc
      rw [ltr_next hT HTM.out.2.2] at hV
      obtain ⟨r, hr⟩ : ∃ r, r = verd (expd now kn') tok sc := ⟨_, rfl⟩
      rw [← hr] at hV
      have HV := Aside0.mk hV
      have HE := Aside0.mk (fun h : r = 1 => hOk.end_ (hr ▸ h))
      have HNX := Aside0.mk (show ∀ w6 : World, DA (fun i => B ≤ i ∧ ¬ False) N' (B + 2) now (expd now kn') qs' w6 → Ku (fun i => B ≤ i ∧ ¬ False) wc w6 → Gd B (n + 1) (B + 2) now tok sc til' may' w w6 from fun w6 hA hK => ⟨_, _, _, _, hLa.next0 hA hK, hInv.expd _, hOk.expd _, Int.le_trans h0 hT, Int.le_refl _⟩)
      clear hV hr hLa hInv hOk h0 hT HR
      go_wp2_with fail
      refine HV.out.mono ?_
      rintro e w6 ⟨rfl, hA, hK⟩
      have HR := Aside0.mk (HNX.out w6 hA hK)
      clear hA hK HV HNX
      by_cases hr1 : r = 1
      · obtain ⟨rfl, hlt⟩ := HE.out hr1
        subst hr1
        have hge1 : ¬ (til' ≤ now) := by omega
        clear hlt
        go_wp2_with fail
        rw [en]
        go_roundw
        case rel => exact ⟨n + 1, til', now, true, HN1.out.1, rfl, rfl, rfl, HNOW.out.2.2.2, HR⟩
        case measure => simp [intOf]; have := HN1.out.1; omega
      · have hne : (r == 1) = false := by simp [hr1]
        clear hr1 HE
        go_wp2_with fail
        rw [en]
        go_roundw
        case rel => exact ⟨n + 1, til', now, may', HN1.out.1, rfl, rfl, rfl, HNOW.out.2.2.2, HR⟩
        case measure => simp [intOf]; have := HN1.out.1; omega
    · obtain rfl : n = m := by omega
      have HL := Aside0.mk hLa
      clear hlt HR hLa hInv hOk ht0 htT hT
      go_wp2_with fail
      refine (law_alive.calls _).mono ?_
      rintro e w4 ⟨rfl, hb⟩
      have HB4 := Aside0.mk (HL.out.below hb).low
      clear hb
      go_wp2_with fail
      go_ret
      exact ⟨rfl, HBE.out ▸ HB4.out⟩
end Go.Proofs.Ytnakiheekkpfdaa.Q
