/- Text, walked. No condition but those typed. -/
import Derived.Test.YtljlkpfiebcoeaaGreatDoorHw4
namespace Go.Proofs.YtljlkpfiebcoeaaGreatDoor.H
open Go.RowKit Go.Sort Go.Shelf Go.Proofs.YtljlkpfiebcoeaaGreatDoor.Q Go.Proofs.YtljlkpfiebcoeaaGreatDoorW.PrintWords Go.Proofs.YtljlkpfiebcoeaaGreatDoorW.PrintLast Go.Proofs.YtljlkpfiebcoeaaGreatDoorW.PrintMore
attribute [local go_sem] max2_int min2_int max_two min_two max_three min_three max_four min_four   -- for this text's walks alone
set_option linter.unusedVariables false
set_option linter.unusedSimpArgs false
set_option maxRecDepth 100000
/-! ### Text (9) -/
def stepT (t : ByteArray) (f : S67) : ByteArray := if sameB f.f0 clen = true then t else lnB t [f.f0, ⟨#[58, 32]⟩, f.f1]
def fldT (t : ByteArray) (fs : List S67) : ByteArray := fs.foldl stepT t
theorem fldT_take {t : ByteArray} {fs : List S67} {n : Nat} (h : n < fs.length) : fldT t (fs.take (n + 1)) = stepT (fldT t (fs.take n)) fs[n] := by
  unfold fldT
  rw [List.take_succ_eq_append_getElem h, List.foldl_append]
  rfl
theorem stepT_yes {t : ByteArray} {f : S67} (h : sameB f.f0 clen = true) : stepT t f = t := if_pos h
theorem stepT_no {t : ByteArray} {f : S67} (h : sameB f.f0 clen = false) : stepT t f = lnB t [f.f0, ⟨#[58, 32]⟩, f.f1] := if_neg (by rw [h]; simp)
def firT (m tg : ByteArray) : ByteArray := lnB ⟨#[]⟩ [m, ⟨#[32]⟩, tg, ⟨#[32, 72, 84, 84, 80, 47, 49, 46, 49]⟩]
def endT (t tx bd : ByteArray) : ByteArray := if bd.toList = [] then t else lnB t [clen, ⟨#[58, 32]⟩, tx]
def txtB (m tg tx : ByteArray) (fs : List S67) (bd : ByteArray) : ByteArray := lnB (endT (fldT (firT m tg) fs) tx bd) [] ++ bd
structure FitT (m tg tx : ByteArray) (fs : List S67) (bd : ByteArray) : Prop where
  m : m.size ≤ 10000
  tg : tg.size ≤ 10000
  tx : tx.size ≤ 10000
  bd : bd.size ≤ 10000
  len : fs.length ≤ 10000
  fs : ∀ i (h : i < fs.length), fs[i].f0.size ≤ 10000 ∧ fs[i].f1.size ≤ 10000
section
variable {m tg tx bd : ByteArray} {fs : List S67}
theorem FitT.l1 (h : FitT m tg tx fs bd) : (firT m tg).size ≤ 20020 := by
  have h1 := h.m
  have h2 := h.tg
  unfold firT
  rw [lnB_size]
  simp only [catB, ByteArray.size_append]
  show 0 + (_ + (1 + (_ + (9 + 0)))) + 2 ≤ 20020
  omega
theorem FitT.c1 (h : FitT m tg tx fs bd) : (⟨#[]⟩ : ByteArray).size + (catB [m, ⟨#[32]⟩, tg, ⟨#[32, 72, 84, 84, 80, 47, 49, 46, 49]⟩]).size + 2 ≤ 140737488355328 := by
  have := h.l1
  unfold firT at this
  rw [lnB_size] at this
  omega
theorem step_size (t : ByteArray) (f : S67) : (stepT t f).size ≤ t.size + f.f0.size + f.f1.size + 4 := by
  unfold stepT
  split
  · omega
  · rw [lnB_size]
    simp only [catB, ByteArray.size_append]
    show _ + (_ + (2 + (_ + 0))) + 2 ≤ _
    omega
theorem FitT.l3 (h : FitT m tg tx fs bd) (n : Nat) (hn : n ≤ fs.length) : (fldT (firT m tg) (fs.take n)).size ≤ 20020 + n * 20010 := by
  induction n with
  | zero => exact h.l1
  | succ n ih =>
    have hlt : n < fs.length := by omega
    have := ih (by omega)
    have h2 := h.fs n hlt
    rw [fldT_take hlt]
    have := step_size (fldT (firT m tg) (fs.take n)) fs[n]
    omega
theorem FitT.c3 (h : FitT m tg tx fs bd) {n : Nat} (hn : n < fs.length) : (fldT (firT m tg) (fs.take n)).size + (catB [fs[n].f0, ⟨#[58, 32]⟩, fs[n].f1]).size + 2 ≤ 140737488355328 := by
  have h1 := h.l3 n (by omega)
  have h2 := h.fs n hn
  have h3 := h.len
  simp only [catB, ByteArray.size_append]
  show _ + (_ + (2 + (_ + 0))) + 2 ≤ _
  omega
theorem FitT.l4 (h : FitT m tg tx fs bd) : (fldT (firT m tg) fs).size ≤ 300000000 := by
  have h1 := h.l3 fs.length (Nat.le_refl _)
  rw [List.take_length] at h1
  have := h.len
  omega
theorem FitT.c4 (h : FitT m tg tx fs bd) : (fldT (firT m tg) fs).size + (catB [clen, ⟨#[58, 32]⟩, tx]).size + 2 ≤ 140737488355328 := by
  have h1 := h.l4
  have h2 := h.tx
  simp only [catB, ByteArray.size_append]
  show _ + (14 + (2 + (_ + 0))) + 2 ≤ _
  omega
theorem FitT.l5 (h : FitT m tg tx fs bd) : (endT (fldT (firT m tg) fs) tx bd).size ≤ 300100000 := by
  have h1 := h.l4
  have h2 := h.tx
  unfold endT
  split
  · omega
  · rw [lnB_size]
    simp only [catB, ByteArray.size_append]
    show _ + (14 + (2 + (_ + 0))) + 2 ≤ _
    omega
theorem FitT.c5 (h : FitT m tg tx fs bd) : (endT (fldT (firT m tg) fs) tx bd).size + (catB []).size + 2 ≤ 140737488355328 := by
  have h1 := h.l5
  show _ + 0 + 2 ≤ _
  omega
theorem FitT.c6 (h : FitT m tg tx fs bd) : (lnB (endT (fldT (firT m tg) fs) tx bd) []).size + bd.size ≤ 140737488355328 := by
  have h1 := h.l5
  have h2 := h.bd
  rw [lnB_size]
  show _ + 0 + 2 + _ ≤ _
  omega
end
theorem len_ok {n : Nat} (h : n ≤ 10000) : n ≤ 4611686018427387904 := Nat.le_trans h (by decide)
theorem big_ok {n : Nat} (h : n ≤ 10000) : n ≤ 1000000000 := Nat.le_trans h (by decide)
def tgtV (p : ByteArray) (q : List S105) (fq : ByteArray) : ByteArray := if q.length > 0 then p ++ (⟨#[63]⟩ ++ fq) else p
set_option maxHeartbeats 8000000 in
theorem p_Text.calls {A Aq Am : Option Addr} {c cq nm cm kf k2 : Nat} {fs : List S67} {q : List S105} {m p bd fq tx tg : ByteArray} {w : World} (hT : Tabs w) (hC : Kd.C k67 w A fs.length fs) (hQ : Kd.C k105 w Aq q.length q) (hcq : q.length ≤ cq) (hfq : percent_Form.f kf q = some fq) (hfz : fq.size ≤ 10000) (hpz : p.size ≤ 10000) (htx : ascii_Text.f k2 (bd.size : Int) = some tx) (htg : tg = tgtV p q fq) (hf : FitT m tg tx fs bd) :
    Calls Tryz.prog 9 #[.agg #[.string m, .string p, .slice Aq q.length cq, .slice A fs.length c, .string bd, .slice Am nm cm]] w fun e w' => e = .returned (.string (txtB m tg tx fs bd)) ∧ Below w.heap.size w w' := by
  obtain ⟨W1, hW1⟩ : ∃ W, W = w.alloc (.cells #[.string m, .string p, .slice Aq q.length cq, .slice A fs.length c, .string bd, .slice Am nm cm] 26) := ⟨_, rfl⟩
  obtain ⟨W2, hW2⟩ : ∃ W, W = W1.alloc (.cells #[.pointer none, .slice none 0 0] 73) := ⟨_, rfl⟩
  have HP2 := Aside0.mk (show Blk.At w.heap.size #[.string m, .string p, .slice Aq q.length cq, .slice A fs.length c, .string bd, .slice Am nm cm] 26 W2 from by rw [hW2, hW1]; exact (Blk.At.new w _ _).alloc _)
  have HWr2 := Aside0.mk (show Wr W1.heap.size W1.heap.size ⟨#[]⟩ W2 from by rw [hW2]; exact Wr.new W1)
  have HBW := Aside0.mk (show Below w.heap.size w W2 from by rw [hW2, hW1]; exact below_alloc (below_alloc (Below.refl _ _) _) _)
  have HS1 := Aside0.mk (show w.heap.size < W1.heap.size from by rw [hW1]; exact Nat.lt_of_lt_of_eq (Nat.lt_succ_self _) (Array.size_push _).symm)
  replace hW1 := hW1.symm
  replace hW2 := hW2.symm
  have HTX := Aside0.mk (fun W => ascii_Text.calls k2 (bd.size : Int) tx W htx)
  have HFM := Aside0.mk (fun W (hb : Below w.heap.size w W) => percent_Form.calls kf Aq cq q fq W (Kd.C_below hQ hb) hcq hfq ⟨hT.below hb⟩)
  have HF := Aside0.mk hf
  have HC := Aside0.mk hC
  have HN2 := Aside0.mk (show Nx W1.heap.size W2 W2 from Nx.refl (by rw [← hW2]; exact (below_alloc (Below.refl _ W1) _).size))
  have c1 : W2.cell? ⟨w.heap.size, 1, none⟩ = some (.string p) := HP2.out.cell 1
  have c2 : W2.cell? ⟨w.heap.size, 2, none⟩ = some (.slice Aq q.length cq) := HP2.out.cell 2
  have c0 : W2.cell? ⟨w.heap.size, 0, none⟩ = some (.string m) := HP2.out.cell 0
  clear htx hfq hf hC hQ hT hcq
  by_cases hq : q.length > 0
  · have hq' : decide ((q.length : Int) > 0) = true := decide_eq_true (by omega)
    have htg' : p ++ (⟨#[63]⟩ ++ fq) = tg := by rw [htg]; exact (if_pos hq).symm
    clear htg
    go_enter Tryz.func9, Tryz.ntmps9
    go_wp2_with fail
    refine (HFM.out W2 HBW.out).mono ?_
    rintro e w3 ⟨rfl, hb_⟩
    have HN3 := Aside0.mk (HN2.out.call hb_)
    have HW3 := Aside0.mk (HWr2.out.below hb_)
    have c0 : w3.cell? ⟨w.heap.size, 0, none⟩ = some (.string m) := HN3.out.cell c0 HS1.out
    clear hb_ HWr2
    have hwl := w_line4 (HW3.out.below (below_alloc (Below.refl _ w3) (.cells #[.string m, .string ⟨#[32]⟩, .string tg, .string ⟨#[32, 72, 84, 84, 80, 47, 49, 46, 49]⟩] 9))) (c := 4) (Blk.At.new w3 _ _) HF.out.c1
    have HN4 := Aside0.mk (HN3.out.alloc (.cells #[.string m, .string ⟨#[32]⟩, .string tg, .string ⟨#[32, 72, 84, 84, 80, 47, 49, 46, 49]⟩] 9))
    go_wp2_with fail
    refine hwl.mono ?_
    rintro e w5 ⟨rfl, hw_, hb_, _⟩
    have HN5 := Aside0.mk (HN4.out.own hb_)
    have HW5 := Aside0.mk (show Wr W1.heap.size W1.heap.size (fldT (firT m tg) (fs.take 0)) w5 from hw_)
    have cF : w5.cell? ⟨w.heap.size, 3, none⟩ = some (.slice A fs.length c) := HN5.out.cell (HP2.out.cell 3) HS1.out
    clear hb_ hw_ hwl HN4 c0 c1 c2
    go_wp2_with fail
    clear cF
    go_loopw [27] (fun j wr => ∃ i : Nat, i ≤ fs.length ∧ j = .int .i64 i ∧ Aside0 (Nx W1.heap.size W2 wr) ∧ Aside0 (Wr W1.heap.size W1.heap.size (fldT (firT m tg) (fs.take i)) wr)) (fun j _ => fs.length - (intOf j).toNat)
    case atStart => exact ⟨0, Nat.zero_le _, rfl, HN5, HW5⟩
    case round =>
      clear HN5 HW5
      obtain ⟨i, hi, rfl, HN, HW⟩ := hrel
      by_cases hlt : i < fs.length
      · obtain ⟨ad, rfl, hc0, hc1⟩ := at_T67 (Kd.C_below HC.out (HBW.out.trans (HN.out.2.mono (Nat.le_of_lt HS1.out)))) (i : Int) (Int.natCast_nonneg _) (by omega)
        have HI := Aside0.mk (fldT_take (t := firT m tg) hlt)
        have HFT := Aside0.mk (HF.out.c3 hlt)
        have hfs := big_ok (HF.out.fs i hlt).1
        have en := w_succ (i := i) (len_ok (Nat.le_trans hi HF.out.len))
        have HLT := Aside0.mk hlt
        rw [Int.toNat_natCast] at hc0 hc1
        rw [show rd_T67 fs (i : Int) = fs[i] from by simp [rd_T67, hlt]] at hc0 hc1
        obtain ⟨f, hf⟩ : ∃ f, f = fs[i] := ⟨_, rfl⟩
        rw [← hf] at HI HFT hc0 hc1 hfs
        clear hf
        obtain ⟨WR, hWR⟩ : ∃ W, W = wr.alloc (.cells #[.string f.f0, .string f.f1] 67) := ⟨_, rfl⟩
        have HFB := Aside0.mk (show Blk.At wr.heap.size #[.string f.f0, .string f.f1] 67 WR from by rw [hWR]; exact Blk.At.new wr _ _)
        have HNR := Aside0.mk (show Nx W1.heap.size W2 WR from by rw [hWR]; exact HN.out.alloc _)
        have HWR := Aside0.mk (show Wr W1.heap.size W1.heap.size (fldT (firT m tg) (fs.take i)) WR from HW.out.below (by rw [hWR]; exact below_alloc (Below.refl _ _) _))
        have k0 : WR.cell? ⟨wr.heap.size, 0, none⟩ = some (.string f.f0) := HFB.out.cell 0
        have hsm := p_Same.calls f.f0 clen hfs (by decide) WR
        have HY := Aside0.mk (@stepT_yes (fldT (firT m tg) (fs.take i)) f)
        have HNO := Aside0.mk (@stepT_no (fldT (firT m tg) (fs.take i)) f)
        replace hWR := hWR.symm
        clear HN HW hfs hi
        generalize hsb : sameB f.f0 clen = sb at hsm HY HNO
        unfold clen at hsm
        clear hsb
        go_wp2_with fail
        refine hsm.mono ?_
        rintro e w6 ⟨rfl, hb_⟩
        have HN6 := Aside0.mk (HNR.out.call hb_)
        have HW6 := Aside0.mk (HWR.out.below hb_)
        have HF6 := Aside0.mk (HFB.out.below hb_ HFB.out.lt)
        clear hb_ hsm k0 HNR HWR HFB
        cases sb with
        | true =>
          have HWN := Aside0.mk (show Wr W1.heap.size W1.heap.size (fldT (firT m tg) (fs.take (i + 1))) w6 from by rw [HI.out, HY.out (by first | rfl | trivial)]; exact HW6.out)
          go_wp2_with fail
          rw [en]
          go_roundw
          case rel => exact ⟨i + 1, HLT.out, rfl, HN6, HWN⟩
          case measure =>
            simp only [intOf, Int.toNat_natCast]
            have := HLT.out
            omega
        | false =>
          have k0 : w6.cell? ⟨wr.heap.size, 0, none⟩ = some (.string f.f0) := HF6.out.cell 0
          have k1 : w6.cell? ⟨wr.heap.size, 1, none⟩ = some (.string f.f1) := HF6.out.cell 1
          have hwl := w_line3 (HW6.out.below (below_alloc (Below.refl _ w6) (.cells #[.string f.f0, .string ⟨#[58, 32]⟩, .string f.f1] 9))) (c := 3) (Blk.At.new w6 _ _) HFT.out
          have HN7 := Aside0.mk (HN6.out.alloc (.cells #[.string f.f0, .string ⟨#[58, 32]⟩, .string f.f1] 9))
          clear HW6 HN6
          go_wp2_with fail
          refine hwl.mono ?_
          rintro e w8 ⟨rfl, hw_, hb_, _⟩
          have HN8 := Aside0.mk (HN7.out.own hb_)
          have HWN := Aside0.mk (show Wr W1.heap.size W1.heap.size (fldT (firT m tg) (fs.take (i + 1))) w8 from by rw [HI.out, HNO.out (by first | rfl | trivial)]; exact hw_)
          clear hb_ hw_ hwl HN7 k0 k1
          go_wp2_with fail
          rw [en]
          go_roundw
          case rel => exact ⟨i + 1, HLT.out, rfl, HN8, HWN⟩
          case measure =>
            simp only [intOf, Int.toNat_natCast]
            have := HLT.out
            omega
      · obtain rfl : i = fs.length := by omega
        rw [List.take_length] at HW
        clear hi hlt
        have c4 : wr.cell? ⟨w.heap.size, 4, none⟩ = some (.string bd) := HN.out.cell (HP2.out.cell 4) HS1.out
        by_cases hbd : bd.toList = []
        · have he : bd.toList.isEmpty = true := by rw [hbd]; rfl
          have HWE := Aside0.mk (show Wr W1.heap.size W1.heap.size (endT (fldT (firT m tg) fs) tx bd) wr from by unfold endT; rw [if_pos hbd]; exact HW.out)
          have hwl := w_line0 HWE.out HF.out.c5
          have HNE := HN
          clear hbd HW HN
          go_wp2_with fail
          refine hwl.mono ?_
          rintro e w14 ⟨rfl, hw_, hb_, _⟩
          have HN14 := Aside0.mk (HNE.out.own hb_)
          have hws := b_WriteString hw_ (s := bd) HF.out.c6
          have c5 : w14.cell? ⟨w.heap.size, 4, none⟩ = some (.string bd) := HN14.out.cell (HP2.out.cell 4) HS1.out
          clear hb_ hw_ hwl
          go_wp2_with fail
          refine hws.mono ?_
          rintro e w15 ⟨rfl, hw_, hb_, _⟩
          have HN15 := Aside0.mk (HN14.out.own hb_)
          have hst := b_String hw_ (lnB_some _ _ _)
          clear hb_ hw_ hws
          go_wp2_with fail
          refine hst.mono ?_
          rintro e w16 ⟨rfl, hb_⟩
          have HN16 := Aside0.mk (HN15.out.own hb_)
          clear hb_
          go_wp2_with fail
          go_ret
          exact ⟨rfl, HBW.out.trans (HN16.out.2.mono (Nat.le_of_lt HS1.out))⟩
        · have he : bd.toList.isEmpty = false := by rw [List.isEmpty_eq_false_iff]; exact hbd
          have HE := Aside0.mk (show endT (fldT (firT m tg) fs) tx bd = lnB (fldT (firT m tg) fs) [clen, ⟨#[58, 32]⟩, tx] from if_neg hbd)
          clear hbd
          go_wp2_with fail
          refine (HTX.out _).mono ?_
          rintro e w9 ⟨rfl, hb_⟩
          have hwl := w_line3 ((HW.out.below hb_).below (below_alloc (Below.refl _ w9) (.cells #[.string clen, .string ⟨#[58, 32]⟩, .string tx] 9))) (c := 3) (Blk.At.new w9 _ _) HF.out.c4
          have HN9 := Aside0.mk ((HN.out.call hb_).alloc (.cells #[.string clen, .string ⟨#[58, 32]⟩, .string tx] 9))
          unfold clen at hwl HN9
          clear hb_ HW HN c4
          go_wp2_with fail
          refine hwl.mono ?_
          rintro e w10 ⟨rfl, hw_, hb_, _⟩
          have HNE := Aside0.mk (HN9.out.own hb_)
          have HWE := Aside0.mk (show Wr W1.heap.size W1.heap.size (endT (fldT (firT m tg) fs) tx bd) w10 from by rw [HE.out]; exact hw_)
          clear hb_ hw_ hwl HN9 HE
          have hwl := w_line0 HWE.out HF.out.c5
          go_wp2_with fail
          refine hwl.mono ?_
          rintro e w14 ⟨rfl, hw_, hb_, _⟩
          have HN14 := Aside0.mk (HNE.out.own hb_)
          have hws := b_WriteString hw_ (s := bd) HF.out.c6
          have c5 : w14.cell? ⟨w.heap.size, 4, none⟩ = some (.string bd) := HN14.out.cell (HP2.out.cell 4) HS1.out
          clear hb_ hw_ hwl
          go_wp2_with fail
          refine hws.mono ?_
          rintro e w15 ⟨rfl, hw_, hb_, _⟩
          have HN15 := Aside0.mk (HN14.out.own hb_)
          have hst := b_String hw_ (lnB_some _ _ _)
          clear hb_ hw_ hws
          go_wp2_with fail
          refine hst.mono ?_
          rintro e w16 ⟨rfl, hb_⟩
          have HN16 := Aside0.mk (HN15.out.own hb_)
          clear hb_
          go_wp2_with fail
          go_ret
          exact ⟨rfl, HBW.out.trans (HN16.out.2.mono (Nat.le_of_lt HS1.out))⟩
  · have hq' : decide ((q.length : Int) > 0) = false := decide_eq_false (by omega)
    obtain rfl : tg = p := by rw [htg]; exact if_neg hq
    clear htg HFM
    have hwl := w_line4 (HWr2.out.below (below_alloc (Below.refl _ W2) (.cells #[.string m, .string ⟨#[32]⟩, .string tg, .string ⟨#[32, 72, 84, 84, 80, 47, 49, 46, 49]⟩] 9))) (c := 4) (Blk.At.new W2 _ _) HF.out.c1
    have HN4 := Aside0.mk (HN2.out.alloc (.cells #[.string m, .string ⟨#[32]⟩, .string tg, .string ⟨#[32, 72, 84, 84, 80, 47, 49, 46, 49]⟩] 9))
    clear HWr2
    go_enter Tryz.func9, Tryz.ntmps9
    go_wp2_with fail
    refine hwl.mono ?_
    rintro e w5 ⟨rfl, hw_, hb_, _⟩
    have HN5 := Aside0.mk (HN4.out.own hb_)
    have HW5 := Aside0.mk (show Wr W1.heap.size W1.heap.size (fldT (firT m tg) (fs.take 0)) w5 from hw_)
    have cF : w5.cell? ⟨w.heap.size, 3, none⟩ = some (.slice A fs.length c) := HN5.out.cell (HP2.out.cell 3) HS1.out
    clear hb_ hw_ hwl HN4 c0 c1 c2
    go_wp2_with fail
    clear cF
    go_loopw [27] (fun j wr => ∃ i : Nat, i ≤ fs.length ∧ j = .int .i64 i ∧ Aside0 (Nx W1.heap.size W2 wr) ∧ Aside0 (Wr W1.heap.size W1.heap.size (fldT (firT m tg) (fs.take i)) wr)) (fun j _ => fs.length - (intOf j).toNat)
    case atStart => exact ⟨0, Nat.zero_le _, rfl, HN5, HW5⟩
    case round =>
      clear HN5 HW5
      obtain ⟨i, hi, rfl, HN, HW⟩ := hrel
      by_cases hlt : i < fs.length
      · obtain ⟨ad, rfl, hc0, hc1⟩ := at_T67 (Kd.C_below HC.out (HBW.out.trans (HN.out.2.mono (Nat.le_of_lt HS1.out)))) (i : Int) (Int.natCast_nonneg _) (by omega)
        have HI := Aside0.mk (fldT_take (t := firT m tg) hlt)
        have HFT := Aside0.mk (HF.out.c3 hlt)
        have hfs := big_ok (HF.out.fs i hlt).1
        have en := w_succ (i := i) (len_ok (Nat.le_trans hi HF.out.len))
        have HLT := Aside0.mk hlt
        rw [Int.toNat_natCast] at hc0 hc1
        rw [show rd_T67 fs (i : Int) = fs[i] from by simp [rd_T67, hlt]] at hc0 hc1
        obtain ⟨f, hf⟩ : ∃ f, f = fs[i] := ⟨_, rfl⟩
        rw [← hf] at HI HFT hc0 hc1 hfs
        clear hf
        obtain ⟨WR, hWR⟩ : ∃ W, W = wr.alloc (.cells #[.string f.f0, .string f.f1] 67) := ⟨_, rfl⟩
        have HFB := Aside0.mk (show Blk.At wr.heap.size #[.string f.f0, .string f.f1] 67 WR from by rw [hWR]; exact Blk.At.new wr _ _)
        have HNR := Aside0.mk (show Nx W1.heap.size W2 WR from by rw [hWR]; exact HN.out.alloc _)
        have HWR := Aside0.mk (show Wr W1.heap.size W1.heap.size (fldT (firT m tg) (fs.take i)) WR from HW.out.below (by rw [hWR]; exact below_alloc (Below.refl _ _) _))
        have k0 : WR.cell? ⟨wr.heap.size, 0, none⟩ = some (.string f.f0) := HFB.out.cell 0
        have hsm := p_Same.calls f.f0 clen hfs (by decide) WR
        have HY := Aside0.mk (@stepT_yes (fldT (firT m tg) (fs.take i)) f)
        have HNO := Aside0.mk (@stepT_no (fldT (firT m tg) (fs.take i)) f)
        replace hWR := hWR.symm
        clear HN HW hfs hi
        generalize hsb : sameB f.f0 clen = sb at hsm HY HNO
        unfold clen at hsm
        clear hsb
        go_wp2_with fail
        refine hsm.mono ?_
        rintro e w6 ⟨rfl, hb_⟩
        have HN6 := Aside0.mk (HNR.out.call hb_)
        have HW6 := Aside0.mk (HWR.out.below hb_)
        have HF6 := Aside0.mk (HFB.out.below hb_ HFB.out.lt)
        clear hb_ hsm k0 HNR HWR HFB
        cases sb with
        | true =>
          have HWN := Aside0.mk (show Wr W1.heap.size W1.heap.size (fldT (firT m tg) (fs.take (i + 1))) w6 from by rw [HI.out, HY.out (by first | rfl | trivial)]; exact HW6.out)
          go_wp2_with fail
          rw [en]
          go_roundw
          case rel => exact ⟨i + 1, HLT.out, rfl, HN6, HWN⟩
          case measure =>
            simp only [intOf, Int.toNat_natCast]
            have := HLT.out
            omega
        | false =>
          have k0 : w6.cell? ⟨wr.heap.size, 0, none⟩ = some (.string f.f0) := HF6.out.cell 0
          have k1 : w6.cell? ⟨wr.heap.size, 1, none⟩ = some (.string f.f1) := HF6.out.cell 1
          have hwl := w_line3 (HW6.out.below (below_alloc (Below.refl _ w6) (.cells #[.string f.f0, .string ⟨#[58, 32]⟩, .string f.f1] 9))) (c := 3) (Blk.At.new w6 _ _) HFT.out
          have HN7 := Aside0.mk (HN6.out.alloc (.cells #[.string f.f0, .string ⟨#[58, 32]⟩, .string f.f1] 9))
          clear HW6 HN6
          go_wp2_with fail
          refine hwl.mono ?_
          rintro e w8 ⟨rfl, hw_, hb_, _⟩
          have HN8 := Aside0.mk (HN7.out.own hb_)
          have HWN := Aside0.mk (show Wr W1.heap.size W1.heap.size (fldT (firT m tg) (fs.take (i + 1))) w8 from by rw [HI.out, HNO.out (by first | rfl | trivial)]; exact hw_)
          clear hb_ hw_ hwl HN7 k0 k1
          go_wp2_with fail
          rw [en]
          go_roundw
          case rel => exact ⟨i + 1, HLT.out, rfl, HN8, HWN⟩
          case measure =>
            simp only [intOf, Int.toNat_natCast]
            have := HLT.out
            omega
      · obtain rfl : i = fs.length := by omega
        rw [List.take_length] at HW
        clear hi hlt
        have c4 : wr.cell? ⟨w.heap.size, 4, none⟩ = some (.string bd) := HN.out.cell (HP2.out.cell 4) HS1.out
        by_cases hbd : bd.toList = []
        · have he : bd.toList.isEmpty = true := by rw [hbd]; rfl
          have HWE := Aside0.mk (show Wr W1.heap.size W1.heap.size (endT (fldT (firT m tg) fs) tx bd) wr from by unfold endT; rw [if_pos hbd]; exact HW.out)
          have hwl := w_line0 HWE.out HF.out.c5
          have HNE := HN
          clear hbd HW HN
          go_wp2_with fail
          refine hwl.mono ?_
          rintro e w14 ⟨rfl, hw_, hb_, _⟩
          have HN14 := Aside0.mk (HNE.out.own hb_)
          have hws := b_WriteString hw_ (s := bd) HF.out.c6
          have c5 : w14.cell? ⟨w.heap.size, 4, none⟩ = some (.string bd) := HN14.out.cell (HP2.out.cell 4) HS1.out
          clear hb_ hw_ hwl
          go_wp2_with fail
          refine hws.mono ?_
          rintro e w15 ⟨rfl, hw_, hb_, _⟩
          have HN15 := Aside0.mk (HN14.out.own hb_)
          have hst := b_String hw_ (lnB_some _ _ _)
          clear hb_ hw_ hws
          go_wp2_with fail
          refine hst.mono ?_
          rintro e w16 ⟨rfl, hb_⟩
          have HN16 := Aside0.mk (HN15.out.own hb_)
          clear hb_
          go_wp2_with fail
          go_ret
          exact ⟨rfl, HBW.out.trans (HN16.out.2.mono (Nat.le_of_lt HS1.out))⟩
        · have he : bd.toList.isEmpty = false := by rw [List.isEmpty_eq_false_iff]; exact hbd
          have HE := Aside0.mk (show endT (fldT (firT m tg) fs) tx bd = lnB (fldT (firT m tg) fs) [clen, ⟨#[58, 32]⟩, tx] from if_neg hbd)
          clear hbd
          go_wp2_with fail
          refine (HTX.out _).mono ?_
          rintro e w9 ⟨rfl, hb_⟩
          have hwl := w_line3 ((HW.out.below hb_).below (below_alloc (Below.refl _ w9) (.cells #[.string clen, .string ⟨#[58, 32]⟩, .string tx] 9))) (c := 3) (Blk.At.new w9 _ _) HF.out.c4
          have HN9 := Aside0.mk ((HN.out.call hb_).alloc (.cells #[.string clen, .string ⟨#[58, 32]⟩, .string tx] 9))
          unfold clen at hwl HN9
          clear hb_ HW HN c4
          go_wp2_with fail
          refine hwl.mono ?_
          rintro e w10 ⟨rfl, hw_, hb_, _⟩
          have HNE := Aside0.mk (HN9.out.own hb_)
          have HWE := Aside0.mk (show Wr W1.heap.size W1.heap.size (endT (fldT (firT m tg) fs) tx bd) w10 from by rw [HE.out]; exact hw_)
          clear hb_ hw_ hwl HN9 HE
          have hwl := w_line0 HWE.out HF.out.c5
          go_wp2_with fail
          refine hwl.mono ?_
          rintro e w14 ⟨rfl, hw_, hb_, _⟩
          have HN14 := Aside0.mk (HNE.out.own hb_)
          have hws := b_WriteString hw_ (s := bd) HF.out.c6
          have c5 : w14.cell? ⟨w.heap.size, 4, none⟩ = some (.string bd) := HN14.out.cell (HP2.out.cell 4) HS1.out
          clear hb_ hw_ hwl
          go_wp2_with fail
          refine hws.mono ?_
          rintro e w15 ⟨rfl, hw_, hb_, _⟩
          have HN15 := Aside0.mk (HN14.out.own hb_)
          have hst := b_String hw_ (lnB_some _ _ _)
          clear hb_ hw_ hws
          go_wp2_with fail
          refine hst.mono ?_
          rintro e w16 ⟨rfl, hb_⟩
          have HN16 := Aside0.mk (HN15.out.own hb_)
          clear hb_
          go_wp2_with fail
          go_ret
          exact ⟨rfl, HBW.out.trans (HN16.out.2.mono (Nat.le_of_lt HS1.out))⟩
end Go.Proofs.YtljlkpfiebcoeaaGreatDoor.H
