/- Bearer, and the probe, walked; what a request's beginnings are. No condition but those typed. -/
import Derived.Test.YtljlkpfiebcoeaaGreatDoorHw3
namespace Go.Proofs.YtljlkpfiebcoeaaGreatDoor.H
open Go.RowKit Go.Sort Go.Shelf Go.Proofs.YtljlkpfiebcoeaaGreatDoor.Q Go.Proofs.YtljlkpfiebcoeaaGreatDoorW.PrintWords Go.Proofs.YtljlkpfiebcoeaaGreatDoorW.PrintLast Go.Proofs.YtljlkpfiebcoeaaGreatDoorW.PrintMore
attribute [local go_sem] max2_int min2_int max_two min_two max_three min_three max_four min_four   -- for this text's walks alone
set_option linter.unusedVariables false
set_option linter.unusedSimpArgs false
set_option maxRecDepth 100000
/-! ### Bearer (10) -/
def authT : ByteArray := ⟨#[97, 117, 116, 104, 111, 114, 105, 122, 97, 116, 105, 111, 110]⟩
def bearT : ByteArray := ⟨#[98, 101, 97, 114, 101, 114, 32]⟩
def tokT : ByteArray := ⟨#[97, 99, 99, 101, 115, 115, 95, 116, 111, 107, 101, 110]⟩
/-- What Bearer answers: s the field, wl its words, t the form's. -/
def bearerR (s : ByteArray) (wl : List ByteArray) (t : ByteArray) : ByteArray × Bool :=
  if s.size > 7 ∧ sameB (s.extract 0 7) bearT = true ∧ wl.length = 1 then (wl.getD 0 ⟨#[]⟩, true) else (t, !t.toList.isEmpty)
theorem bearerR_yes {s : ByteArray} {x t : ByteArray} (h1 : s.size > 7) (h2 : sameB (s.extract 0 7) bearT = true) : bearerR s [x] t = (x, true) := if_pos ⟨h1, h2, rfl⟩
theorem bearerR_no {s : ByteArray} {wl : List ByteArray} {t : ByteArray} (h : ¬ (s.size > 7 ∧ sameB (s.extract 0 7) bearT = true ∧ wl.length = 1)) : bearerR s wl t = (t, !t.toList.isEmpty) := if_neg h
set_option maxHeartbeats 4000000 in
theorem p_Bearer.calls {A Aq Am : Option Addr} {c nq cq cm k1 k2 : Nat} {fs : List S67} {fm : List S105} {wl : List ByteArray} {t : ByteArray} {tb : Bool} {w : World} (hC : Kd.C k67 w A fs.length fs) (hM : Kd.C k105 w Am fm.length fm) (hcm : fm.length ≤ cm) (hN : fs.length ≤ 1000000) (hs : (getF fs authT).1.size ≤ 1000000000) (m p bd : ByteArray)
    (hw : (getF fs authT).1.size > 7 → ascii_Words.f k1 ((getF fs authT).1.extract 7 (getF fs authT).1.size) = some wl) (hg : percent_Get.f k2 fm tokT = some (t, tb)) :
    Calls Tryz.prog 17 #[.agg #[.string m, .string p, .slice Aq nq cq, .slice A fs.length c, .string bd, .slice Am fm.length cm]] w fun e w' => e = .returned (.tuple #[.string (bearerR (getF fs authT).1 wl t).1, .bool (bearerR (getF fs authT).1 wl t).2]) ∧ Below w.heap.size w w' := by
  obtain ⟨W1, hW1⟩ : ∃ W, W = w.alloc (.cells #[.string m, .string p, .slice Aq nq cq, .slice A fs.length c, .string bd, .slice Am fm.length cm] 26) := ⟨_, rfl⟩
  have HR1 := Aside0.mk (show Blk.At w.heap.size #[.string m, .string p, .slice Aq nq cq, .slice A fs.length c, .string bd, .slice Am fm.length cm] 26 W1 from hW1 ▸ Blk.At.new w _ _)
  have HB1 := Aside0.mk (show Below w.heap.size w W1 from hW1 ▸ below_alloc (Below.refl _ _) _)
  have hgt := p_Get.calls (A := A) (Aq := Aq) (Am := Am) (c := c) (nq := nq) (cq := cq) (nm := fm.length) (cm := cm) (Kd.C_below hC HB1.out) hN m p bd authT (by decide)
  have hsz := hs
  have HPG := Aside0.mk (fun (W : World) (hb : Below w.heap.size w W) => percent_Get.calls k2 Am cm fm tokT t tb W (Kd.C_below hM hb) hcm hg)
  replace hW1 := hW1.symm
  generalize getF fs authT = gf at hw hgt hsz ⊢
  obtain ⟨s, sb⟩ := gf
  simp only at hw hgt hsz ⊢
  have HY := Aside0.mk (@bearerR_yes s)
  have HNO := Aside0.mk (@bearerR_no s wl t)
  have hsm := p_Same.calls (s.extract 0 7) bearT (by rw [ByteArray.size_extract]; omega) (by decide)
  have hwd := fun (h : s.size > 7) (W : World) => ascii_Words.calls k1 (s.extract 7 s.size) wl W (hw h)
  generalize hr : bearerR s wl t = r
  replace hr := Aside0.mk hr
  have x0 : W1.cell? ⟨w.heap.size, 0, none⟩ = some (.string m) := HR1.out.cell 0
  have x1 : W1.cell? ⟨w.heap.size, 1, none⟩ = some (.string p) := HR1.out.cell 1
  have x2 : W1.cell? ⟨w.heap.size, 2, none⟩ = some (.slice Aq nq cq) := HR1.out.cell 2
  have x3 : W1.cell? ⟨w.heap.size, 3, none⟩ = some (.slice A fs.length c) := HR1.out.cell 3
  have x4 : W1.cell? ⟨w.heap.size, 4, none⟩ = some (.string bd) := HR1.out.cell 4
  have x5 : W1.cell? ⟨w.heap.size, 5, none⟩ = some (.slice Am fm.length cm) := HR1.out.cell 5
  have HSM := Aside0.mk hsm
  have HWD := Aside0.mk hwd
  unfold authT at hgt
  unfold bearT at HSM HY HNO
  unfold tokT at HPG
  clear hC hM hcm hN hs hw hg hsz hsm hwd
  go_enter Tryz.func17, Tryz.ntmps17
  go_wp2_with fail
  refine hgt.mono ?_
  rintro e w2 ⟨rfl, hb⟩
  have HR2 := Aside0.mk (HR1.out.below hb HR1.out.lt)
  have HB2 := Aside0.mk (below_step HB1.out hb)
  clear hb hgt x0 x1 x2 x3 x4 x5 HR1 HB1
  by_cases h7 : s.size > 7
  · have h7' : decide ((s.size : Int) > 7) = true := decide_eq_true (by omega)
    have hle : 7 ≤ s.size := by omega
    have HG7 := Aside0.mk h7
    clear h7
    go_wp2_with fail
    refine (HSM.out w2).mono ?_
    rintro e w3 ⟨rfl, hb⟩
    have HR3 := Aside0.mk (HR2.out.below hb HR2.out.lt)
    have HB3 := Aside0.mk (below_step HB2.out hb)
    clear hb HR2 HB2 HSM
    cases hq : sameB (s.extract 0 7) ⟨#[98, 101, 97, 114, 101, 114, 32]⟩ with
    | true =>
      have hwd := HWD.out HG7.out w3
      go_wp2_with fail
      refine hwd.mono ?_
      rintro e w4 ⟨v4, rfl, hV, hb⟩
      obtain ⟨A4, c4, rfl⟩ := Kd.R_slice hV
      have HR4 := Aside0.mk (HR3.out.below hb HR3.out.lt)
      have HB4 := Aside0.mk (below_step HB3.out hb)
      clear hb HR3 HB3 hwd
      by_cases h1 : wl.length = 1
      · obtain ⟨x, rfl⟩ : ∃ x, wl = [x] := List.length_eq_one_iff.1 h1
        obtain ⟨ad, rfl, hcs⟩ := Kd.C_strings_cells (Kd.R_reads' hV).2.2 (by simp)
        have k0 : w4.cell? (ad.add 0) = some (.string x) := hcs 0 _ rfl
        have k0' : w4.cell? ad = some (.string x) := k0
        rw [show [x].length = 1 from rfl]
        obtain rfl : r = (x, true) := hr.out.symm.trans (HY.out HG7.out hq)
        clear hcs hV h1
        go_wp2_with fail
        go_ret2
        exact ⟨rfl, HB4.out⟩
      · obtain rfl : r = (t, !t.toList.isEmpty) := hr.out.symm.trans (HNO.out (fun h => h1 h.2.2))
        have h1' : ((wl.length : Int) == 1) = false := beq_eq_false_iff_ne.2 (by omega)
        have x5 : w4.cell? ⟨w.heap.size, 5, none⟩ = some (.slice Am fm.length cm) := HR4.out.cell 5
        have hpg := HPG.out w4 HB4.out
        clear h1 hV
        go_wp2_with fail
        refine hpg.mono ?_
        rintro e w5 ⟨rfl, hb⟩
        have HB5 := Aside0.mk (below_step HB4.out (by first | exact hb | exact below_D0 hb))
        clear hb hpg
        go_wp2_with fail
        go_ret2
        exact ⟨by first | rfl | simp, HB5.out⟩
    | false =>
      obtain rfl : r = (t, !t.toList.isEmpty) := hr.out.symm.trans (HNO.out (fun h => by have := h.2.1; rw [hq] at this; cases this))
      have x5 : w3.cell? ⟨w.heap.size, 5, none⟩ = some (.slice Am fm.length cm) := HR3.out.cell 5
      have hpg := HPG.out w3 HB3.out
      go_wp2_with fail
      refine hpg.mono ?_
      rintro e w5 ⟨rfl, hb⟩
      have HB5 := Aside0.mk (below_step HB3.out (by first | exact hb | exact below_D0 hb))
      clear hb hpg
      go_wp2_with fail
      go_ret2
      exact ⟨by first | rfl | simp, HB5.out⟩
  · have h7' : decide ((s.size : Int) > 7) = false := decide_eq_false (by omega)
    obtain rfl : r = (t, !t.toList.isEmpty) := hr.out.symm.trans (HNO.out (fun h => h7 h.1))
    have x5 : w2.cell? ⟨w.heap.size, 5, none⟩ = some (.slice Am fm.length cm) := HR2.out.cell 5
    have hpg := HPG.out w2 HB2.out
    clear h7
    go_wp2_with fail
    refine hpg.mono ?_
    rintro e w5 ⟨rfl, hb⟩
    have HB5 := Aside0.mk (below_step HB2.out (by first | exact hb | exact below_D0 hb))
    clear hb hpg
    go_wp2_with fail
    go_ret2
    exact ⟨by first | rfl | simp, HB5.out⟩
/-! ### The probe, evaluated -/
instance : DecidableEq S67 := fun a b => decidable_of_iff (a.f0 = b.f0 ∧ a.f1 = b.f1) ⟨fun h => by cases a; cases b; simp only at h; rw [h.1, h.2], fun h => by rw [h]; exact ⟨rfl, rfl⟩⟩
instance : DecidableEq S105 := fun a b => decidable_of_iff (a.f0 = b.f0 ∧ a.f1 = b.f1) ⟨fun h => by cases a; cases b; simp only at h; rw [h.1, h.2], fun h => by rw [h]; exact ⟨rfl, rfl⟩⟩
instance : DecidableEq Rq := fun a b => decidable_of_iff (a.m = b.m ∧ a.p = b.p ∧ a.q = b.q ∧ a.f = b.f ∧ a.b = b.b ∧ a.v = b.v) ⟨fun h => by cases a; cases b; simp only at h; rw [h.1, h.2.1, h.2.2.1, h.2.2.2.1, h.2.2.2.2.1, h.2.2.2.2.2], fun h => by rw [h]; exact ⟨rfl, rfl, rfl, rfl, rfl, rfl⟩⟩
def alB : ByteArray := ⟨#[71, 69, 84, 32, 47, 109, 63, 97, 61, 98, 32, 72, 84, 84, 80, 47, 49, 46, 49, 13, 10, 65, 117, 116, 104, 111, 114, 105, 122, 97, 116, 105, 111, 110, 58, 32, 66, 101, 97, 114, 101, 114, 32, 116, 13, 10, 13, 10]⟩
def alR : Rq := ⟨⟨#[71, 69, 84]⟩, ⟨#[47, 109]⟩, [⟨⟨#[97]⟩, ⟨#[98]⟩⟩], [⟨authT, ⟨#[66, 101, 97, 114, 101, 114, 32, 116]⟩⟩], ⟨#[]⟩, []⟩
theorem al_parse : parseR alB = (0, alR) := by decide +kernel
theorem al_param : http_Param.f 20 alR.m alR.p alR.q alR.f alR.b alR.v ⟨#[97]⟩ = some (⟨#[98]⟩, true) := by decide +kernel
theorem al_get : (getF alR.f authT).1 = ⟨#[66, 101, 97, 114, 101, 114, 32, 116]⟩ := by decide +kernel
theorem al_words : ascii_Words.f 20 ((getF alR.f authT).1.extract 7 (getF alR.f authT).1.size) = some [⟨#[116]⟩] := by decide +kernel
theorem al_token : percent_Get.f 20 alR.v tokT = some (⟨#[]⟩, false) := by decide +kernel
theorem al_bear : bearerR (getF alR.f authT).1 [⟨#[116]⟩] ⟨#[]⟩ = (⟨#[116]⟩, true) := by decide +kernel
theorem al_pad : ascii_Pad.f 40 200 3 = some ⟨#[50, 48, 48]⟩ := by decide +kernel
theorem al_reason : http_Reason.f 200 = some ⟨#[79, 75]⟩ := by decide +kernel
theorem al_text : ascii_Text.f 40 (((⟨#[120]⟩ : ByteArray).size : Nat) : Int) = some ⟨#[49]⟩ := by decide +kernel
theorem al_fits : Fits ⟨#[50, 48, 48]⟩ ⟨#[79, 75]⟩ ⟨#[49]⟩ ⟨#[]⟩ [] ⟨#[120]⟩ := ⟨by decide, by decide, by decide, by decide, by decide, by decide, fun i h => by simp at h⟩
theorem al_write : wrB ⟨#[50, 48, 48]⟩ ⟨#[79, 75]⟩ ⟨#[49]⟩ ⟨#[]⟩ [] ⟨#[120]⟩ = ⟨#[72, 84, 84, 80, 47, 49, 46, 49, 32, 50, 48, 48, 32, 79, 75, 13, 10, 67, 111, 110, 116, 101, 110, 116, 45, 76, 101, 110, 103, 116, 104, 58, 32, 49, 13, 10, 13, 10, 120]⟩ := by decide +kernel
/-! ### alive (5) -/
set_option maxHeartbeats 8000000 in
theorem p_alive.calls {w : World} (hT : Tabs w) : Calls Tryz.prog 5 #[] w fun e w' => e = .returned (.bool true) ∧ Below w.heap.size w w' := by
  have hpa := p_ParseR.calls hT alB (by decide)
  rw [al_parse] at hpa
  unfold alB at hpa
  have hlen := Aside0.mk (show alR.f.length ≤ 1000000 from by decide)
  have hsm := Aside0.mk (show ∀ f ∈ alR.f, f.f1.size ≤ 1000000000 from by decide)
  have hpath : (alR.p.toList == [47, 109]) = true := by decide +kernel
  have HPAR := Aside0.mk al_param
  have HWD := Aside0.mk al_words
  have HTK := Aside0.mk al_token
  have HBE := Aside0.mk al_bear
  generalize alR = r at hpa hlen hsm hpath HPAR HWD HTK HBE
  obtain ⟨m, p, q, f, b, v⟩ := r
  simp only at hpath
  clear hT
  go_enter Tryz.func5, Tryz.ntmps5
  go_wp2_with fail
  refine hpa.mono ?_
  rintro e w2 ⟨Aq, cq, Af, cf, Am, cm, rfl, hq, hf, hm, hb⟩
  simp only at hq hf hm
  obtain ⟨W3, hW3⟩ : ∃ W, W = w2.alloc (.cells #[.string m, .string p, .slice Aq q.length cq, .slice Af f.length cf, .string b, .slice Am v.length cm] 26) := ⟨_, rfl⟩
  have hb3 : Below w2.heap.size w2 W3 := hW3 ▸ below_alloc (Below.refl _ _) _
  have HB3 := Aside0.mk (below_step hb hb3)
  have HA3 := Aside0.mk (show Blk.At w2.heap.size #[.string m, .string p, .slice Aq q.length cq, .slice Af f.length cf, .string b, .slice Am v.length cm] 26 W3 from hW3 ▸ Blk.At.new w2 _ _)
  have HQ3 := Aside0.mk (Kd.R_reads' (Kd.R_below hq hb3))
  have HF3 := Aside0.mk (Kd.R_reads' (Kd.R_below hf hb3))
  have HM3 := Aside0.mk (Kd.R_reads' (Kd.R_below hm hb3))
  have x0 : W3.cell? ⟨w2.heap.size, 0, none⟩ = some (.string m) := HA3.out.cell 0
  have x1 : W3.cell? ⟨w2.heap.size, 1, none⟩ = some (.string p) := HA3.out.cell 1
  have x2 : W3.cell? ⟨w2.heap.size, 2, none⟩ = some (.slice Aq q.length cq) := HA3.out.cell 2
  have x3 : W3.cell? ⟨w2.heap.size, 3, none⟩ = some (.slice Af f.length cf) := HA3.out.cell 3
  have x4 : W3.cell? ⟨w2.heap.size, 4, none⟩ = some (.string b) := HA3.out.cell 4
  have x5 : W3.cell? ⟨w2.heap.size, 5, none⟩ = some (.slice Am v.length cm) := HA3.out.cell 5
  have hprm := http_Param.calls 20 m p Aq cq q Af cf f b Am cm v ⟨#[97]⟩ ⟨#[98]⟩ true W3 HQ3.out.2.2 HQ3.out.2.1 HF3.out.2.2 HF3.out.2.1 HM3.out.2.2 HM3.out.2.1 HPAR.out
  replace hW3 := hW3.symm
  clear hq hf hm hb hb3 hpa
  go_wp2_with fail
  refine hprm.mono ?_
  rintro e w4 ⟨rfl, hb⟩
  have HB4 := Aside0.mk (below_step HB3.out hb)
  have HA4 := Aside0.mk (HA3.out.below hb HA3.out.lt)
  have hbe := p_Bearer.calls (nq := q.length) (cq := cq) (Aq := Aq) (c := cf) (Kd.C_below HF3.out.2.2 hb) (Kd.C_below HM3.out.2.2 hb) HM3.out.2.1 hlen.out (getF_size hsm.out authT) m p b (fun _ => HWD.out) HTK.out
  rw [HBE.out] at hbe
  replace x0 := pw_cell_below hb x0
  replace x1 := pw_cell_below hb x1
  replace x2 := pw_cell_below hb x2
  replace x3 := pw_cell_below hb x3
  replace x4 := pw_cell_below hb x4
  replace x5 := pw_cell_below hb x5
  clear hb hprm HB3 HA3 HQ3
  go_wp2_with fail
  refine hbe.mono ?_
  rintro e w5 ⟨rfl, hb⟩
  have HB5 := Aside0.mk (below_step HB4.out hb)
  replace x1 := pw_cell_below hb x1
  have hwr := p_Write.calls (A := none) (c := 0) (w := w5) al_pad al_reason al_text al_fits (Kd.C_nil k67 w5)
  rw [al_write] at hwr
  clear hb hbe HB4 HA4 HF3 HM3 x0 x2 x3 x4 x5
  go_wp2_with fail
  refine hwr.mono ?_
  rintro e w6 ⟨rfl, hb⟩
  have HB6 := Aside0.mk (below_step HB5.out hb)
  clear hb hwr
  go_wp2_with fail
  go_ret
  exact ⟨rfl, HB6.out⟩
/-! ### Beginnings of a request: plain -/
theorem idx_more {s sub : List UInt8} (h : 0 ≤ Lib.index s sub) (m : List UInt8) : Lib.index (s ++ m) sub = Lib.index s sub := by
  rcases Lib.index_spec s sub with ⟨h1, _⟩ | ⟨i, h1, h2, h3, h4⟩
  · omega
  · have hr := Lib.index_room s sub h
    rw [h1] at hr ⊢
    refine Lib.index_first (by rw [List.length_append]; omega) ?_ ?_
    · unfold Lib.occAt at h3 ⊢
      rw [List.drop_append_of_le_length h2]
      exact List.isPrefixOf_iff_prefix.2 ((List.isPrefixOf_iff_prefix.1 h3).trans (List.prefix_append _ _))
    · intro j hj
      have h5 := h4 j hj
      cases h6 : Lib.occAt (s ++ m) sub j with
      | false => rfl
      | true =>
        unfold Lib.occAt at h5 h6
        rw [List.drop_append_of_le_length (by omega)] at h6
        have := List.prefix_of_prefix_length_le (List.isPrefixOf_iff_prefix.1 h6) (List.prefix_append (s.drop j) m) (by rw [List.length_drop]; omega)
        rw [List.isPrefixOf_iff_prefix.2 this] at h5
        cases h5
theorem cut_more {s sep : List UInt8} (h : (Lib.cut s sep).2.2 = true) (m : List UInt8) : Lib.cut (s ++ m) sep = ((Lib.cut s sep).1, (Lib.cut s sep).2.1 ++ m, true) := by
  unfold Lib.cut at h ⊢
  split at h
  · rename_i h0
    have hr := Lib.index_room s sep h0
    rw [idx_more h0, if_pos h0, if_pos h0, List.take_append_of_le_length (by omega), List.drop_append_of_le_length (by omega)]
  · cases h
theorem ba_ext {a b : ByteArray} (h : a.data.toList = b.data.toList) : a = b := ByteArray.ext (Array.toList_inj.1 h)
theorem data_app (a b : ByteArray) : (a ++ b).data.toList = a.data.toList ++ b.data.toList := by simp
theorem cutB_more {s sep : ByteArray} (h : (cutB s sep).2.2 = true) (m : ByteArray) : (cutB (s ++ m) sep).1 = (cutB s sep).1 ∧ (cutB (s ++ m) sep).2.2 = true := by
  have h1 := cut_more (s := s.data.toList) (sep := sep.data.toList) h m.data.toList
  rw [← data_app] at h1
  unfold cutB
  rw [h1]
  exact ⟨rfl, rfl⟩
/-- What a head tells. -/
def headX (hd : ByteArray) : Option (ByteArray × ByteArray × List S67) :=
  match firstL (lsB (cutB (hd ++ crlf) crlf).1) with
  | none => none
  | some (m, t) => match fieldsR (cutB (hd ++ crlf) crlf).2.1.size (cutB (hd ++ crlf) crlf).2.1 [] with
    | none => none
    | some fs => some (m, t, fs)
theorem headR_eq (hd bd : ByteArray) : headR hd bd = match headX hd with | none => (3, Rq0) | some (m, t, fs) => tailR m t fs bd := by
  unfold headR headX
  cases firstL (lsB (cutB (hd ++ crlf) crlf).1) with
  | none => rfl
  | some x =>
    obtain ⟨m, t⟩ := x
    simp only
    cases fieldsR (cutB (hd ++ crlf) crlf).2.1.size (cutB (hd ++ crlf) crlf).2.1 [] <;> rfl
theorem tail_ok {m t : ByteArray} {fs : List S67} {bd : ByteArray} (h : (tailR m t fs bd).1 = 0) : (sizeF fs).2 = 0 ∧ (sizeF fs).1 = bd.size ∧ (pairsF t bd fs).2.2 = 0 ∧ tailR m t fs bd = (0, ⟨m, (cutB t qmark).1, (pairsF t bd fs).1, fs, bd, (pairsF t bd fs).2.1⟩) := by
  by_cases h1 : bodyF fs bd.size = 0
  · by_cases h2 : (pairsF t bd fs).2.2 = 0
    · refine ⟨?_, ?_, h2, tailR3 h1 h2⟩
      · unfold bodyF at h1
        split at h1
        · exact h1
        · omega
      · unfold bodyF at h1
        split at h1
        · omega
        · split at h1
          · cases h1
          · split at h1
            · cases h1
            · omega
    · rw [tailR2 h1 h2] at h
      exact absurd h h2
  · rw [tailR1 h1] at h
    exact absurd h h1
theorem tail_less {m t : ByteArray} {fs : List S67} {bd : ByteArray} (h : (sizeF fs).2 = 0) (h1 : (bd.size : Int) < (sizeF fs).1) : (tailR m t fs bd).1 = 4 := by
  have := bodyF2 h h1
  rw [tailR1 (by rw [this]; decide), this]
theorem tail_past {m t : ByteArray} {fs : List S67} {bd : ByteArray} (h : (sizeF fs).2 = 0) (h1 : (bd.size : Int) > (sizeF fs).1) : (tailR m t fs bd).1 = 3 := by
  have := bodyF3 h h1
  rw [tailR1 (by rw [this]; decide), this]
theorem cutH_small {b : ByteArray} (h : b.size ≤ 8192) : cutH b = cutB b crlf2 := by
  unfold cutH
  rw [Nat.min_eq_left h, ByteArray.extract_zero_size]
theorem parse_small {b : ByteArray} (h : b.size ≤ 8192) : parseR b = if (cutB b crlf2).2.2 = true then headR (cutB b crlf2).1 (restR b ((cutB b crlf2).1.size + 4)) else (4, Rq0) := by
  unfold parseR
  rw [cutH_small h, if_neg (by omega : ¬ b.size > 8192)]
theorem restR_len (b : ByteArray) (n : Nat) : (restR b n).size = b.size - n := by
  unfold restR
  rw [ByteArray.size_extract]
  omega
/-- What is known of bytes that are a request. -/
theorem parse_ok {b : ByteArray} (h8 : b.size ≤ 8192) (h : (parseR b).1 = 0) : (cutB b crlf2).2.2 = true ∧ ∃ m t fs, headX (cutB b crlf2).1 = some (m, t, fs) ∧ (tailR m t fs (restR b ((cutB b crlf2).1.size + 4))).1 = 0 ∧ parseR b = tailR m t fs (restR b ((cutB b crlf2).1.size + 4)) := by
  rw [parse_small h8] at h ⊢
  by_cases hc : (cutB b crlf2).2.2 = true
  · refine ⟨hc, ?_⟩
    rw [if_pos hc] at h ⊢
    rw [headR_eq] at h ⊢
    cases hx : headX (cutB b crlf2).1 with
    | none => rw [hx] at h; cases h
    | some x =>
      obtain ⟨m, t, fs⟩ := x
      rw [hx] at h
      exact ⟨m, t, fs, rfl, h, rfl⟩
  · rw [if_neg hc] at h
    cases h
theorem ext_cat (b : ByteArray) (n : Nat) : b.extract 0 n ++ b.extract n b.size = b := by
  apply ByteArray.ext
  apply Array.toList_inj.1
  simp
theorem cut_less {b : ByteArray} (h8 : b.size ≤ 8192) (h : (parseR b).1 = 0) {n : Nat} (hn : n < b.size) : (parseR (b.extract 0 n)).1 = 4 := by
  have hs : (b.extract 0 n).size = n := by rw [ByteArray.size_extract]; omega
  rw [parse_small (by rw [hs]; omega)]
  by_cases hc : (cutB (b.extract 0 n) crlf2).2.2 = true
  · rw [if_pos hc, headR_eq]
    obtain ⟨-, m, t, fs, h1, h2, -⟩ := parse_ok h8 h
    obtain ⟨e1, -⟩ := cutB_more hc (b.extract n b.size)
    rw [ext_cat] at e1
    rw [e1] at h1 h2
    rw [h1]
    obtain ⟨t1, t2, -⟩ := tail_ok h2
    refine tail_less t1 ?_
    have hr := cut_room (b := b.extract 0 n) (by rw [cutH_small (by rw [hs]; omega)]; exact hc)
    rw [cutH_small (by rw [hs]; omega), hs] at hr
    rw [t2, restR_len, restR_len, hs]
    omega
  · rw [if_neg hc]
theorem cut_past {b more : ByteArray} (h8 : b.size + more.size ≤ 8192) (h : (parseR b).1 = 0) (hm : more.size ≠ 0) : (parseR (b ++ more)).1 = 3 := by
  have hs : (b ++ more).size = b.size + more.size := ByteArray.size_append
  rw [parse_small (by rw [hs]; omega)]
  obtain ⟨hc, m, t, fs, h1, h2, -⟩ := parse_ok (by omega) h
  obtain ⟨e1, e2⟩ := cutB_more hc more
  rw [if_pos e2, headR_eq, e1, h1]
  obtain ⟨t1, t2, -⟩ := tail_ok h2
  refine tail_past t1 ?_
  have hr := cut_room (b := b) (by rw [cutH_small (by omega)]; exact hc)
  rw [cutH_small (by omega)] at hr
  rw [t2, restR_len, restR_len, hs]
  omega
theorem parse_nil : (parseR ⟨#[]⟩).1 = 4 := by decide +kernel
end Go.Proofs.YtljlkpfiebcoeaaGreatDoor.H
