/- A journal's law of what is refused, walked. No condition but those typed. -/
import Derived.Test.YtdlfabbhdelinaaWalk0
import Derived.Test.YtdlfabbhdelinaaDisk09
import Derived.Test.YtdlfabbhdelinaaJw4
import Derived.Outline
namespace Go.Proofs.Ytdlfabbhdelinaa.Q
open Go.RowKit Go.Proofs.YtdlfabbhdelinaaW.PrintWords Go.Proofs.YtdlfabbhdelinaaW.PrintLast Go.Proofs.YtdlfabbhdelinaaW.PrintMore
open Go.Proofs.Ytdlfabbhdelinaa.Dk
attribute [local go_sem] max2_int min2_int max_two min_two max_three min_three max_four min_four   -- for this text's walks alone
set_option linter.unusedVariables false
set_option linter.unusedSimpArgs false
set_option maxRecDepth 100000
theorem calm_apD {d : D} (h : Calm d) (i : Bool) (b : List Int) : Calm (apD (iv i) b d) := by
  by_cases hr : room1 d b.length = 0
  · rw [apD_calm h i hr]; exact calm_app h _ _
  · rw [apD_full h i hr]; exact h
/-- A Snapshot of a calm disk. -/
def snD (i : Bool) (b : List Int) (d : D) : D := syn i (tru i 0 (swi (iv (!i)) (syn (!i) (app (!i) b d))))
theorem sn1_calm {d : D} (h : Calm d) (i : Bool) (b : List Int) : sn1 i b d = if room1 d b.length ≠ 0 then (room1 d b.length, d, i) else (0, snD i b d, !i) := by
  unfold sn1
  rw [apE_calm h]
  by_cases hr : room1 d b.length = 0
  · have c1 := calm_app h (!i) b
    have c2 := calm_syn c1 (!i)
    have c3 := calm_swi c2 (iv (!i))
    have c4 := calm_tru c3 i 0
    have t := tr_calm c3 i (n := 0) (by omega) (by omega)
    rw [if_neg (by omega), if_neg (by omega), apD_calm h _ hr]
    unfold sn2
    rw [(sy_calm c1 (!i)).1, (sy_calm c1 (!i)).2, if_neg (by decide)]
    unfold sn3
    rw [(sw_calm c2 (!i)).1, (sw_calm c2 (!i)).2, if_neg (by decide)]
    unfold sn5
    rw [t.1, t.2, if_neg (by decide), (sy_calm c4 i).1, (sy_calm c4 i).2]
    rfl
  · rw [if_pos hr, if_pos hr, apD_full h _ hr]
theorem calm_snD {d : D} (h : Calm d) (i : Bool) (b : List Int) : Calm (snD i b d) := calm_syn (calm_tru (calm_swi (calm_syn (calm_app h _ _) _) _) _ _) _
theorem room1_cases (d : D) (n : Nat) : room1 d n = 0 ∨ room1 d n = 11 := by
  unfold room1
  split <;> simp
theorem frsE_cases (l : List (List Int)) (x : Int) (d : D) : frsE l x d = 0 ∨ frsE l x d = 1 ∨ frsE l x d = 11 := by
  unfold frsE
  split
  · split <;> simp
  · simp
/-- What holds behind n calls. -/
structure RI (n : Nat) (d : D) (j : J) : Prop where
  good : Good d
  calm : Calm d
  many : 0 ≤ j.many ∧ j.many ≤ 20 * (n : Int)
  grp : j.group.length ≤ 1048576
theorem RI.jk {n : Nat} {d : D} {j : J} (h : RI n d j) (hn : n ≤ 40) : Jk j := ⟨⟨h.many.1, by have := h.many.2; omega⟩, by have := h.grp; omega⟩
theorem frs_bound {l : List (List Int)} {x : Nat} {d : D} (hg : Good d) (h : frsE l (x : Int) d = 0) : x + (flat l).length ≤ 1048576 := by
  unfold frsE at h
  split at h
  · split at h
    · cases h
    · have h2 := hg.room.most
      unfold leftN at *
      omega
  · cases h
theorem add_step {n : Nat} {d : D} {j : J} (h : RI n d j) (l : List (List Int)) (hl : l.length ≤ 20) : RI (n + 1) d (addJ l d j) ∧ (frsE l (j.group.length : Int) d ≠ 0 → addJ l d j = j) := by
  have hm := h.many
  by_cases he : frsE l (j.group.length : Int) d = 0
  · refine ⟨?_, fun hh => absurd he hh⟩
    have e : addJ l d j = ⟨j.live, j.group ++ flat l, j.many + l.length⟩ := if_pos he
    rw [e]
    have hb := frs_bound h.good he
    refine ⟨h.good, h.calm, ⟨?_, ?_⟩, ?_⟩
    · show 0 ≤ j.many + (l.length : Int)
      omega
    · show j.many + (l.length : Int) ≤ 20 * ((n + 1 : Nat) : Int)
      omega
    · show (j.group ++ flat l).length ≤ 1048576
      rw [List.length_append]
      exact hb
  · have e : addJ l d j = j := if_neg he
    rw [e]
    exact ⟨⟨h.good, h.calm, ⟨hm.1, by omega⟩, h.grp⟩, fun _ => rfl⟩
theorem com_step {n : Nat} {d : D} {j : J} (h : RI n d j) : RI (n + 1) (comD d j) (comJ d j) ∧ (comE d j ≠ 0 → comE d j = 11 ∧ comD d j = d ∧ comJ d j = j) := by
  have hm := h.many
  by_cases h0 : j.many = 0
  · have e1 : comD d j = d := if_pos h0
    have e2 : comJ d j = j := if_pos h0
    have e3 : comE d j = 0 := if_pos h0
    rw [e1, e2, e3]
    exact ⟨⟨h.good, h.calm, ⟨hm.1, by omega⟩, h.grp⟩, fun hh => absurd rfl hh⟩
  · have hg := good_comD (j := j) h.good
    have ha := apE_calm h.calm j.live j.group
    have hif : ∀ {α : Type} (a b : α), (if (0 : Int) ≠ 0 then a else b) = b := fun a b => if_neg (by decide)
    unfold comE comD comJ at *
    rw [if_neg h0] at hg
    rw [if_neg h0, if_neg h0, if_neg h0]
    rw [ha] at hg ⊢
    rcases room1_cases d j.group.length with hr | hr
    · rw [hr, if_neg (by decide)] at hg
      rw [hr, hif, hif, hif]
      have hc := calm_apD h.calm j.live j.group
      have hs := sy_calm hc j.live
      rw [hs.1, if_neg (by decide)]
      refine ⟨⟨hg, ?_, ⟨by show (0 : Int) ≤ 0; omega, by show (0 : Int) ≤ _; omega⟩, by show 0 ≤ 1048576; omega⟩, fun hh => absurd rfl hh⟩
      rw [hs.2]
      exact calm_syn hc _
    · have hd := apD_full h.calm j.live (b := j.group) (by omega)
      rw [hr, if_pos (by decide), if_pos (by decide), if_pos (by decide), hd]
      exact ⟨⟨h.good, h.calm, ⟨hm.1, by omega⟩, h.grp⟩, fun _ => ⟨rfl, rfl, rfl⟩⟩
theorem snap_step {n : Nat} {d : D} {j : J} (h : RI n d j) (l : List (List Int)) : RI (n + 1) (snap l d j).2.1 (snap l d j).2.2 ∧ ((snap l d j).1 ≠ 0 → ((snap l d j).1 = 1 ∨ (snap l d j).1 = 11 ∨ (snap l d j).1 = 13) ∧ (snap l d j).2.1 = d ∧ (snap l d j).2.2 = j) := by
  have hm := h.many
  have hg := good_snap (l := l) (j := j) h.good
  have hsame : RI (n + 1) d j := ⟨h.good, h.calm, ⟨hm.1, by omega⟩, h.grp⟩
  by_cases h0 : 0 < j.many
  · have e : snap l d j = (13, d, j) := if_pos h0
    rw [e]
    exact ⟨hsame, fun _ => ⟨.inr (.inr rfl), rfl, rfl⟩⟩
  by_cases h1 : frsE l 0 d ≠ 0
  · have e : snap l d j = (frsE l 0 d, d, j) := (if_neg h0).trans (if_pos h1)
    rw [e]
    exact ⟨hsame, fun _ => ⟨(frsE_cases l 0 d).elim (fun hh => absurd hh h1) (fun hh => hh.elim .inl (fun x => .inr (.inl x))), rfl, rfl⟩⟩
  have e : snap l d j = ((sn1 j.live (flat l) d).1, (sn1 j.live (flat l) d).2.1, ⟨(sn1 j.live (flat l) d).2.2, j.group, j.many⟩) := (if_neg h0).trans (if_neg h1)
  rw [e] at hg ⊢
  rw [sn1_calm h.calm] at hg ⊢
  rcases room1_cases d (flat l).length with hr | hr
  · rw [hr, if_neg (by decide)] at hg ⊢
    exact ⟨⟨hg, calm_snD h.calm _ _, ⟨hm.1, by show j.many ≤ _; omega⟩, h.grp⟩, fun hh => absurd rfl hh⟩
  · rw [hr, if_pos (by decide)]
    exact ⟨hsame, fun _ => ⟨.inr (.inl rfl), rfl, rfl⟩⟩
theorem ri_step {n : Nat} {d : D} {j : J} (h : RI n d j) (a : Ac) (hl : a.recs.length ≤ 20) (hz : Int.tmod a.kind 7 ≠ 2 ∧ Int.tmod a.kind 7 ≠ 4 ∧ Int.tmod a.kind 7 ≠ 5) :
    RI (n + 1) (dzD a d j) (dzJ a d j) ∧ (dzE a d j = 0 ∨ (dzE a d j = 1 ∨ dzE a d j = 11 ∨ dzE a d j = 13) ∧ dzD a d j = d ∧ dzJ a d j = j) := by
  unfold dzE dzD dzJ
  rw [if_neg hz.1, if_neg hz.1, if_neg hz.1, if_neg hz.2.1, if_neg hz.2.1, if_neg hz.2.1, if_neg hz.2.2, if_neg hz.2.2, if_neg hz.2.2]
  by_cases h1 : Int.tmod a.kind 7 = 1
  · rw [if_pos h1, if_pos h1, if_pos h1]
    have hs := com_step h
    exact ⟨hs.1, (Classical.em (comE d j = 0)).elim .inl (fun hh => .inr ⟨.inr (.inl (hs.2 hh).1), (hs.2 hh).2⟩)⟩
  rw [if_neg h1, if_neg h1, if_neg h1]
  by_cases h3 : Int.tmod a.kind 7 = 3
  · rw [if_pos h3, if_pos h3, if_pos h3]
    have hs := snap_step h a.recs
    exact ⟨hs.1, (Classical.em ((snap a.recs d j).1 = 0)).elim .inl (fun hh => .inr (hs.2 hh))⟩
  rw [if_neg h3, if_neg h3, if_neg h3]
  have hs := add_step h a.recs hl
  exact ⟨hs.1, (frsE_cases a.recs (j.group.length : Int) d).elim .inl (fun hh => .inr ⟨hh.elim .inl (fun x => .inr (.inl x)), rfl, hs.2 (by rcases hh with hh | hh <;> rw [hh] <;> decide)⟩)⟩
theorem ri_new {room : Int} (h1 : 1 ≤ room) (h2 : room ≤ 1048576) : RI 0 (openD false (newD room)) ⟨false, [], 0⟩ := by
  have h : Jr.scanF ([] : List Int) = [] := Jr.scan_flat0 (l := []) (fun _ h => by cases h)
  have e : openD false (newD room) = newD room := by
    unfold openD
    rw [show ((newD room).fl false).now = [] from rfl, h]
    rfl
  rw [e]
  exact ⟨good_new h1 h2, calm_new room, ⟨by show (0 : Int) ≤ 0; omega, by show (0 : Int) ≤ _; omega⟩, by show 0 ≤ 1048576; omega⟩
theorem good_room5 (q : Int) (h : 0 ≤ q ∧ q < 500) : 1 ≤ q + 1 ∧ q + 1 ≤ 1048576 := by omega
theorem RI.next {n : Nat} {d : D} {j : J} (h : RI n d j) : RI (n + 1) d j := ⟨h.good, h.calm, ⟨h.many.1, by have := h.many.2; omega⟩, h.grp⟩
theorem jOpen.dead (W : World) : Calls Try.prog 16 #[.pointer none] W fun e w' => e = .returned (.tuple #[.pointer none, .slice none 0 0, .int .i64 2]) ∧ w' = W := by
  go_enter Try.func16, Try.ntmps16
  go_wp2_with fail
  refine (disk_Root.dead (.inl rfl)).mono ?_
  rintro e w1 ⟨rfl, rfl⟩
  go_wp2_with fail
  go_ret3
  exact ⟨rfl, rfl⟩
set_option maxHeartbeats 8000000 in
theorem law_Refused.calls {w : World} {room : Int} (hr : 0 ≤ room ∧ room < 65536) {A : Option Addr} {c : Nat} {l : List Ac} (hC : dA.C w A l.length l) (hc : l.length ≤ c) :
    Calls Try.prog 5 #[.int .u16 room, .slice A l.length c] w fun e w' => e = .returned (.bool true) ∧ Below w.heap.size w w' := by
  have HC := Aside0.mk hC
  have HCC := Aside0.mk hc
  have hcv : IntKind.i64.wrap room = room := by simp [IntKind.wrap, IntKind.bits, IntKind.signed]; omega
  obtain ⟨q, hq⟩ : ∃ q, q = Int.tmod room 500 := ⟨_, rfl⟩
  have hqr : 0 ≤ q ∧ q < 500 := by
    rw [hq]
    exact ⟨Int.tmod_nonneg _ hr.1, Int.tmod_lt_of_pos _ (by decide)⟩
  have hqc : Int.tmod room 500 = q := hq.symm
  have hqw : wrap64 (q + 1) = q + 1 := by unfold wrap64; omega
  have HQ := Aside0.mk (good_room5 q hqr)
  clear hC hc hr hq hqr
  go_enter Try.func5, Try.ntmps5
  go_wp2_with fail
  refine (disk_New.calls HQ.out.1 HQ.out.2 (fun k => w.heap.size < k) (by omega) (fun _ hk => hk)).mono ?_
  rintro e w1 ⟨rfl, hA, hB⟩
  have hD := Dn.new (B := 0) hA hB
  obtain ⟨g, hg⟩ : ∃ g, g = w.heap.size := ⟨_, rfl⟩
  have HGE := Aside0.mk hg
  rw [← hg] at hD ⊢
  have HD1 := Aside0.mk hD.1
  have HB1 := Aside0.mk hB
  clear hA hB hg hD
  go_wp2_with fail
  refine (law_far.calls (Kd.C_below HC.out HB1.out) HCC.out).mono ?_
  rintro e w2 ⟨bf, rfl, hB, hbf⟩
  have HD2 := Aside0.mk (HD1.out.below hB)
  have HB2 := Aside0.mk (HB1.out.trans (hB.mono HB1.out.size))
  have HBF := Aside0.mk hbf
  clear hB HD1 HB1 hbf
  cases bf
  case true =>
    go_wp2_with fail
    refine (law_alive.calls _).mono ?_
    rintro e w3 ⟨rfl, hB⟩
    have HB3 := Aside0.mk (HB2.out.trans (hB.mono HB2.out.size))
    clear hB
    go_wp2_with fail
    go_ret
    exact ⟨rfl, HB3.out⟩
  have HSM := Aside0.mk (HBF.out rfl)
  have hOP := jOpen.calls HD2.out (good_new HQ.out.1 HQ.out.2) rfl rfl false rfl
  have HRI0 := Aside0.mk (ri_new HQ.out.1 HQ.out.2)
  obtain ⟨dd, hdd⟩ : ∃ dd, dd = openD false (newD (q + 1)) := ⟨_, rfl⟩
  rw [← hdd] at hOP HRI0
  have HOP := Aside0.mk hOP
  have HS := Aside0.mk (law_short.calls (A := A) HCC.out)
  obtain ⟨ms, hms⟩ : ∃ ms, ms = sh l.length := ⟨_, rfl⟩
  have HMS := Aside0.mk (show ms ≤ l.length ∧ ms ≤ 40 from by rw [hms]; unfold sh; split <;> omega)
  rw [← hms] at HS HSM
  clear hms hOP hdd HBF
  go_wp2_with fail
  refine HOP.out.mono ?_
  rintro e w3 ⟨jb, Ao, co, S3, rfl, hJ, hM, hR⟩
  have HJ3 := Aside0.mk hJ
  have HS3 := Aside0.mk (show ∀ k, S3 k → w.heap.size ≤ k from hM.above (fun k hk => by rw [← HGE.out]; exact hk.1) HB2.out.size)
  have HB3 := Aside0.mk (hM.base HB2.out (fun k hk => by rw [← HGE.out]; exact hk.1) HB2.out.size)
  clear hJ hM hR HOP HD2 HB2
  go_wp2_with fail
  refine (HS.out _).mono ?_
  rintro e w6 ⟨rfl, rfl⟩
  go_wp2_with fail
  go_loopw [60] (fun j wr => ∃ n : Nat, n ≤ ms ∧ j = .int .i64 n ∧ (∃ d jj S, Aside0 (RI n d jj ∧ Jn S g jb d jj wr ∧ ∀ k, S k → w.heap.size ≤ k)) ∧ Aside0 (Below w.heap.size w wr)) (fun j _ => ms - (intOf j).toNat)
  case atStart => exact ⟨0, Nat.zero_le _, rfl, ⟨_, _, _, ⟨HRI0.out, HJ3.out, HS3.out⟩⟩, HB3⟩
  case round =>
    clear HJ3 HB3 HS3 HRI0
    obtain ⟨n, hn, rfl, ⟨d, jj, S, HA⟩, HB⟩ := hrel
    have HRI := Aside0.mk HA.out.1
    have HGD := Aside0.mk HA.out.1.good
    have HJ0 := Aside0.mk HA.out.2.1
    have HS0 := Aside0.mk HA.out.2.2
    clear HA
    by_cases hlt : n < ms
    · have hl : n < l.length := by have := HMS.out; omega
      obtain ⟨ad, Ra, ca, k0, k1, c0, c1, rfl, hb, hbC, hk, hcs, hx⟩ := script_at HC.out hl
      have H20 := Aside0.mk (HSM.out.1 l[n] (List.mem_take_iff_getElem.2 ⟨n, by omega, rfl⟩))
      generalize l[n] = a at hb hbC hk hcs hx H20
      obtain ⟨X, hX⟩ : ∃ X, X = ad.add (n * 8) := ⟨_, rfl⟩
      have hXe : ad.add (n * 8) = X := hX.symm
      rw [hXe] at hx
      clear hX
      have hx0 : wr.cell? X = some (.int .u8 a.kind) := pw_cell_below HB.out (hx 0 _ rfl)
      have hx1 : wr.cell? ⟨X.block, X.off + 1, none⟩ = some (.slice Ra a.recs.length ca) := pw_cell_below HB.out (hx 1 _ rfl)
      have hx2 : wr.cell? ⟨X.block, X.off + 2, none⟩ = some (.int .i64 a.n) := pw_cell_below HB.out (hx 2 _ rfl)
      have hx3 : wr.cell? ⟨X.block, X.off + 3, none⟩ = some (.bool a.behind) := pw_cell_below HB.out (hx 3 _ rfl)
      have hx4 : wr.cell? ⟨X.block, X.off + 4, none⟩ = some (.int .i64 k0) := pw_cell_below HB.out (hx 4 _ rfl)
      have hx5 : wr.cell? ⟨X.block, X.off + 5, none⟩ = some (.int .i64 k1) := pw_cell_below HB.out (hx 5 _ rfl)
      have hx6 : wr.cell? ⟨X.block, X.off + 6, none⟩ = some (.bool c0) := pw_cell_below HB.out (hx 6 _ rfl)
      have hx7 : wr.cell? ⟨X.block, X.off + 7, none⟩ = some (.bool c1) := pw_cell_below HB.out (hx 7 _ rfl)
      have HCR := Aside0.mk hbC
      have HK := Aside0.mk (And.intro hk hcs)
      have hb1 := below_alloc (Below.refl _ wr) (.cells #[.int .u8 a.kind, .slice Ra a.recs.length ca, .int .i64 a.n, .bool a.behind, .int .i64 k0, .int .i64 k1, .bool c0, .bool c1] 46)
      have HJ1 := Aside0.mk (HJ0.out.below hb1)
      have HB1 := Aside0.mk (HB.out.trans (hb1.mono HB.out.size))
      have HQb := Aside0.mk (Blk.At.new wr #[.int .u8 a.kind, .slice Ra a.recs.length ca, .int .i64 a.n, .bool a.behind, .int .i64 k0, .int .i64 k1, .bool c0, .bool c1] 46)
      have en : wrap64 ((n : Int) + 1) = ((n + 1 : Nat) : Int) := w64n (by have := HMS.out; omega)
      obtain ⟨z, hz⟩ : ∃ z, z = Int.tmod a.kind 7 := ⟨_, rfl⟩
      have hzc : Int.tmod a.kind 7 = z := hz.symm
      have HZ := Aside0.mk hz
      have HRN := Aside0.mk HRI.out.next
      clear hx hb hbC hk hcs hb1 hz HJ0
      by_cases t2 : z = 2
      · have tb : (z == 2) = true := by simpa using t2
        clear t2
        go_wp2_with fail
        rw [en]
        go_roundw
        case rel => exact ⟨n + 1, by omega, rfl, ⟨_, _, _, ⟨HRN.out, HJ1.out, HS0.out⟩⟩, HB1⟩
        case measure => simp [intOf]; omega
      have t2b : (z == 2) = false := by simpa using t2
      by_cases t4 : z = 4
      · have tb : (z == 4) = true := by simpa using t4
        clear t4 t2
        go_wp2_with fail
        rw [en]
        go_roundw
        case rel => exact ⟨n + 1, by omega, rfl, ⟨_, _, _, ⟨HRN.out, HJ1.out, HS0.out⟩⟩, HB1⟩
        case measure => simp [intOf]; omega
      have t4b : (z == 4) = false := by simpa using t4
      by_cases t5 : z = 5
      · have tb : (z == 5) = true := by simpa using t5
        clear t5 t4 t2
        go_wp2_with fail
        rw [en]
        go_roundw
        case rel => exact ⟨n + 1, by omega, rfl, ⟨_, _, _, ⟨HRN.out, HJ1.out, HS0.out⟩⟩, HB1⟩
        case measure => simp [intOf]; omega
      have t5b : (z == 5) = false := by simpa using t5
      have HST := Aside0.mk (ri_step HRI.out a H20.out ⟨by rw [← HZ.out]; exact t2, by rw [← HZ.out]; exact t4, by rw [← HZ.out]; exact t5⟩)
      clear t2 t4 t5
      go_wp2_with fail
      refine (jSize.calls HJ1.out HGD.out).mono ?_
      rintro e w2 ⟨rfl, hb⟩
      have HJ2 := Aside0.mk (HJ1.out.below hb)
      have HB2 := Aside0.mk (HB1.out.trans (hb.mono HB1.out.size))
      have HQ2 := Aside0.mk (HQb.out.below hb HQb.out.lt)
      clear hb HJ1 HB1 HQb hx0 hx1 hx2 hx3 hx4 hx5 hx6 hx7
      go_wp2_with fail
      refine (jGroup.calls HJ2.out).mono ?_
      rintro e w3 ⟨rfl, rfl⟩
      go_wp2_with fail
      refine (jLeft.calls HJ2.out HGD.out).mono ?_
      rintro e w4 ⟨rfl, hb⟩
      have HJ4 := Aside0.mk (HJ2.out.below hb)
      have HB4 := Aside0.mk (HB2.out.trans (hb.mono HB2.out.size))
      have HQ4 := Aside0.mk (HQ2.out.below hb HQ2.out.lt)
      clear hb HJ2 HB2 HQ2
      have z0 : w4.cell? ⟨wr.heap.size, 0, none⟩ = some (.int .u8 a.kind) := HQ4.out.cell 0
      have z1 : w4.cell? ⟨wr.heap.size, 1, none⟩ = some (.slice Ra a.recs.length ca) := HQ4.out.cell 1
      have z2 : w4.cell? ⟨wr.heap.size, 2, none⟩ = some (.int .i64 a.n) := HQ4.out.cell 2
      have z3 : w4.cell? ⟨wr.heap.size, 3, none⟩ = some (.bool a.behind) := HQ4.out.cell 3
      have z4 : w4.cell? ⟨wr.heap.size, 4, none⟩ = some (.int .i64 k0) := HQ4.out.cell 4
      have z5 : w4.cell? ⟨wr.heap.size, 5, none⟩ = some (.int .i64 k1) := HQ4.out.cell 5
      have z6 : w4.cell? ⟨wr.heap.size, 6, none⟩ = some (.bool c0) := HQ4.out.cell 6
      have z7 : w4.cell? ⟨wr.heap.size, 7, none⟩ = some (.bool c1) := HQ4.out.cell 7
      have hd : Calls Try.prog 28 #[.pointer (some ⟨jb, 0, none⟩), .agg #[.int .u8 a.kind, .slice Ra a.recs.length ca, .int .i64 a.n, .bool a.behind, .int .i64 k0, .int .i64 k1, .bool c0, .bool c1]] w4 fun e w' => e = .returned (.int .i64 (dzE a d jj)) ∧ ∃ S', Jn S' g jb (dzD a d jj) (dzJ a d jj) w' ∧ Mv S S' w4 w' :=
        law_does.calls HJ4.out HGD.out (HRI.out.jk (by have := HMS.out; omega)) a Ra ca k0 k1 c0 c1 (Kd.C_below HCR.out HB4.out) H20.out
      obtain ⟨E, hE⟩ : ∃ E, E = dzE a d jj := ⟨_, rfl⟩
      obtain ⟨D2, hD2⟩ : ∃ D2, D2 = dzD a d jj := ⟨_, rfl⟩
      obtain ⟨J2, hJ2⟩ : ∃ J2, J2 = dzJ a d jj := ⟨_, rfl⟩
      rw [← hE, ← hD2, ← hJ2] at hd HST
      have HD := Aside0.mk hd
      have HRI2 := Aside0.mk HST.out.1
      have HGD2 := Aside0.mk HST.out.1.good
      have HSE := Aside0.mk HST.out.2
      clear hd hE hD2 hJ2 HST
      go_wp2_with fail
      refine HD.out.mono ?_
      rintro e w6 ⟨rfl, S6, hJ, hM⟩
      have HJ6 := Aside0.mk hJ
      have HS6 := Aside0.mk (show ∀ k, S6 k → w.heap.size ≤ k from hM.above HS0.out HB4.out.size)
      have HB6 := Aside0.mk (hM.base HB4.out HS0.out HB4.out.size)
      clear hJ hM HJ4 HB4 HQ4 HD z0 z1 z2 z3 z4 z5 z6 z7
      rcases HSE.out with rfl | ⟨he, rfl, rfl⟩
      · have hEb : ((0 : Int) != 0) = false := by decide
        go_wp2_with fail
        rw [en]
        go_roundw
        case rel => exact ⟨n + 1, by omega, rfl, ⟨_, _, _, ⟨HRI2.out, HJ6.out, HS6.out⟩⟩, HB6⟩
        case measure => simp [intOf]; omega
      rcases he with rfl | rfl | rfl
      · have hEb : ((1 : Int) != 0) = true := by decide
        go_wp2_with fail
        refine (jSize.calls HJ6.out HGD2.out).mono ?_
        rintro e w9 ⟨rfl, hb⟩
        have HJ9 := Aside0.mk (HJ6.out.below hb)
        have HB9 := Aside0.mk (HB6.out.trans (hb.mono HB6.out.size))
        clear hb HJ6 HB6
        go_wp2_with fail
        refine (jGroup.calls HJ9.out).mono ?_
        rintro e w10 ⟨rfl, rfl⟩
        go_wp2_with fail
        refine (jLeft.calls HJ9.out HGD2.out).mono ?_
        rintro e w11 ⟨rfl, hb⟩
        have HJ11 := Aside0.mk (HJ9.out.below hb)
        have HB11 := Aside0.mk (HB9.out.trans (hb.mono HB9.out.size))
        clear hb HJ9 HB9
        go_wp2_with fail
        rw [en]
        go_roundw
        case rel => exact ⟨n + 1, by omega, rfl, ⟨_, _, _, ⟨HRI2.out, HJ11.out, HS6.out⟩⟩, HB11⟩
        case measure => simp [intOf]; omega
      · have hEb : ((11 : Int) != 0) = true := by decide
        go_wp2_with fail
        refine (jSize.calls HJ6.out HGD2.out).mono ?_
        rintro e w9 ⟨rfl, hb⟩
        have HJ9 := Aside0.mk (HJ6.out.below hb)
        have HB9 := Aside0.mk (HB6.out.trans (hb.mono HB6.out.size))
        clear hb HJ6 HB6
        go_wp2_with fail
        refine (jGroup.calls HJ9.out).mono ?_
        rintro e w10 ⟨rfl, rfl⟩
        go_wp2_with fail
        refine (jLeft.calls HJ9.out HGD2.out).mono ?_
        rintro e w11 ⟨rfl, hb⟩
        have HJ11 := Aside0.mk (HJ9.out.below hb)
        have HB11 := Aside0.mk (HB9.out.trans (hb.mono HB9.out.size))
        clear hb HJ9 HB9
        go_wp2_with fail
        rw [en]
        go_roundw
        case rel => exact ⟨n + 1, by omega, rfl, ⟨_, _, _, ⟨HRI2.out, HJ11.out, HS6.out⟩⟩, HB11⟩
        case measure => simp [intOf]; omega
      · have hEb : ((13 : Int) != 0) = true := by decide
        go_wp2_with fail
        refine (jSize.calls HJ6.out HGD2.out).mono ?_
        rintro e w9 ⟨rfl, hb⟩
        have HJ9 := Aside0.mk (HJ6.out.below hb)
        have HB9 := Aside0.mk (HB6.out.trans (hb.mono HB6.out.size))
        clear hb HJ6 HB6
        go_wp2_with fail
        refine (jGroup.calls HJ9.out).mono ?_
        rintro e w10 ⟨rfl, rfl⟩
        go_wp2_with fail
        refine (jLeft.calls HJ9.out HGD2.out).mono ?_
        rintro e w11 ⟨rfl, hb⟩
        have HJ11 := Aside0.mk (HJ9.out.below hb)
        have HB11 := Aside0.mk (HB9.out.trans (hb.mono HB9.out.size))
        clear hb HJ9 HB9
        go_wp2_with fail
        rw [en]
        go_roundw
        case rel => exact ⟨n + 1, by omega, rfl, ⟨_, _, _, ⟨HRI2.out, HJ11.out, HS6.out⟩⟩, HB11⟩
        case measure => simp [intOf]; omega
    · obtain rfl : n = ms := by omega
      go_wp2_with fail
      obtain ⟨gz, hgz⟩ : ∃ gz, gz = wr.heap.size := ⟨_, rfl⟩
      rw [← hgz]
      have hp := heap_new wr (.cells #[.pointer none, .int .i64 0, .slice none 0 0, .int .i64 0] 57) hgz
      obtain ⟨Wa, hWa⟩ : ∃ Wa, Wa = wr.alloc (.cells #[.pointer none, .int .i64 0, .slice none 0 0, .int .i64 0] 57) := ⟨_, rfl⟩
      have hsa : Wa.heap.size = gz + 1 := by rw [hWa, size_alloc, hgz]
      rw [← hWa] at hp ⊢
      have hq := heap_new Wa (.cells #[.pointer none, .pointer (some ⟨gz, 0, none⟩)] 39) hsa.symm
      have hp' := Blk.At.alloc (show Blk.At gz _ 57 Wa from hp) (.cells #[.pointer none, .pointer (some ⟨gz, 0, none⟩)] 39)
      have hba : Below w.heap.size w (Wa.alloc (.cells #[.pointer none, .pointer (some ⟨gz, 0, none⟩)] 39)) := by
        have h1 : Below w.heap.size w Wa := by rw [hWa]; exact below_alloc HB.out _
        exact below_alloc h1 _
      obtain ⟨Wb, hWb⟩ : ∃ Wb, Wb = Wa.alloc (.cells #[.pointer none, .pointer (some ⟨gz, 0, none⟩)] 39) := ⟨_, rfl⟩
      have hsb : Wb.heap.size = gz + 2 := by rw [hWb, size_alloc, hsa]
      rw [← hWb] at hp' hq hba ⊢
      have HZ := Aside0.mk hp'
      have HP := Aside0.mk (show Blk.At (gz + 1) #[.pointer none, .pointer (some ⟨gz, 0, none⟩)] 39 Wb from hq)
      have HBA := Aside0.mk hba
      have HSZ := Aside0.mk hsb
      have HB00 := Aside0.mk (Below.refl Wb.heap.size Wb)
      clear hp hq hp' hba hWa hWb hsa hsb hgz HB HJ0 HGD HS0
      go_loopw [123] (fun j wq => ∃ n : Nat, n ≤ 2 ∧ j = .int .i64 n ∧ Aside0 (Below Wb.heap.size Wb wq)) (fun j _ => 2 - (intOf j).toNat)
      case atStart => exact ⟨0, by omega, rfl, HB00⟩
      case round =>
        clear HB00
        obtain ⟨n, hn, rfl, HB0⟩ := hrel
        rcases (by omega : n = 2 ∨ n = 0 ∨ n = 1) with rfl | rfl | rfl
        · go_wp2_with fail
          refine (jOpen.dead _).mono ?_
          rintro e v0 ⟨rfl, rfl⟩
          go_wp2_with fail
          refine (law_alive.calls _).mono ?_
          rintro e v1 ⟨rfl, hb⟩
          have HB1 := Aside0.mk ((HBA.out.trans (HB0.out.mono HBA.out.size)).trans (hb.mono (Nat.le_trans HBA.out.size HB0.out.size)))
          clear hb
          go_wp2_with fail
          go_ret
          exact ⟨rfl, HB1.out⟩
        · have cl : wr.cell? ⟨gz + 1, 0, none⟩ = some (Value.pointer none) := (Blk.At.below HP.out HB0.out (by rw [HSZ.out]; omega)).cell 0
          have DE := Aside0.mk (show ∀ W, Below wr.heap.size wr W → Jdead (.pointer none) W from fun W _ => .inl rfl)
          have hcv := Lib.run_convert_bytes_const (P := Try.prog) wr 22 5 #[.int .u8 97] 1 1 Try.underlying22 Try.underlying5
          go_wp2_with fail
          clear hcv
          refine (jAdd.dead (DE.out _ (below_alloc (below_alloc (Below.refl _ _) _) _))).mono ?_
          rintro e v1 ⟨rfl, hv⟩
          have hb1 : Below wr.heap.size wr v1 := by rw [hv]; exact below_alloc (below_alloc (Below.refl _ _) _) _
          have HB1 := Aside0.mk (HB0.out.trans (hb1.mono HB0.out.size))
          have D1 := Aside0.mk (DE.out v1 hb1)
          clear hv hb1 cl DE
          go_wp2_with fail
          refine (jCommit.dead D1.out).mono ?_
          rintro e v2 ⟨rfl, rfl⟩
          go_wp2_with fail
          refine (jSnapshot.dead D1.out).mono ?_
          rintro e v3 ⟨rfl, rfl⟩
          go_wp2_with fail
          refine (jDrop.dead D1.out).mono ?_
          rintro e v4 ⟨rfl, rfl⟩
          go_wp2_with fail
          refine (jSize.dead D1.out).mono ?_
          rintro e v5 ⟨rfl, rfl⟩
          go_wp2_with fail
          refine (jLeft.dead D1.out).mono ?_
          rintro e v6 ⟨rfl, rfl⟩
          go_wp2_with fail
          refine (jGroup.dead D1.out).mono ?_
          rintro e v7 ⟨rfl, rfl⟩
          go_wp2_with fail
          go_roundw
          case rel => exact ⟨1, by omega, rfl, HB1⟩
          case measure => simp [intOf]
        · have cl : wr.cell? ⟨gz + 1, 1, none⟩ = some (Value.pointer (some ⟨gz, 0, none⟩)) := (Blk.At.below HP.out HB0.out (by rw [HSZ.out]; omega)).cell 1
          have DE := Aside0.mk (show ∀ W, Below wr.heap.size wr W → Jdead (.pointer (some ⟨gz, 0, none⟩)) W from fun W hW => .inr ⟨gz, rfl, pw_cell_below hW ((Blk.At.below HZ.out HB0.out (by rw [HSZ.out]; omega)).cell 0)⟩)
          have hcv := Lib.run_convert_bytes_const (P := Try.prog) wr 22 5 #[.int .u8 97] 1 1 Try.underlying22 Try.underlying5
          go_wp2_with fail
          clear hcv
          refine (jAdd.dead (DE.out _ (below_alloc (below_alloc (Below.refl _ _) _) _))).mono ?_
          rintro e v1 ⟨rfl, hv⟩
          have hb1 : Below wr.heap.size wr v1 := by rw [hv]; exact below_alloc (below_alloc (Below.refl _ _) _) _
          have HB1 := Aside0.mk (HB0.out.trans (hb1.mono HB0.out.size))
          have D1 := Aside0.mk (DE.out v1 hb1)
          clear hv hb1 cl DE
          go_wp2_with fail
          refine (jCommit.dead D1.out).mono ?_
          rintro e v2 ⟨rfl, rfl⟩
          go_wp2_with fail
          refine (jSnapshot.dead D1.out).mono ?_
          rintro e v3 ⟨rfl, rfl⟩
          go_wp2_with fail
          refine (jDrop.dead D1.out).mono ?_
          rintro e v4 ⟨rfl, rfl⟩
          go_wp2_with fail
          refine (jSize.dead D1.out).mono ?_
          rintro e v5 ⟨rfl, rfl⟩
          go_wp2_with fail
          refine (jLeft.dead D1.out).mono ?_
          rintro e v6 ⟨rfl, rfl⟩
          go_wp2_with fail
          refine (jGroup.dead D1.out).mono ?_
          rintro e v7 ⟨rfl, rfl⟩
          go_wp2_with fail
          go_roundw
          case rel => exact ⟨2, by omega, rfl, HB1⟩
          case measure => simp [intOf]
end Go.Proofs.Ytdlfabbhdelinaa.Q
