/- A reader's functions, walked: size, body, Get, pairs, Parse. No condition but those typed. -/
import Derived.Test.YtljlkpfiebcoeaaGreatDoorHw2
import Derived.Test.YtljlkpfiebcoeaaGreatDoorConn
namespace Go.Proofs.YtljlkpfiebcoeaaGreatDoor.H
open Go.RowKit Go.Sort Go.Shelf Go.Proofs.YtljlkpfiebcoeaaGreatDoor.Q Go.Proofs.YtljlkpfiebcoeaaGreatDoorW.PrintWords Go.Proofs.YtljlkpfiebcoeaaGreatDoorW.PrintLast Go.Proofs.YtljlkpfiebcoeaaGreatDoorW.PrintMore
attribute [local go_sem] max2_int min2_int max_two min_two max_three min_three max_four min_four   -- for this text's walks alone
set_option linter.unusedVariables false
set_option linter.unusedSimpArgs false
set_option maxRecDepth 100000
/-! ### size (39), body (14) -/
def clen : ByteArray := ⟨#[99, 111, 110, 116, 101, 110, 116, 45, 108, 101, 110, 103, 116, 104]⟩
def tenc : ByteArray := ⟨#[116, 114, 97, 110, 115, 102, 101, 114, 45, 101, 110, 99, 111, 100, 105, 110, 103]⟩
def numB (x : ByteArray) : Int × Int := Plain.num 65536 (bytesOf x)
theorem p_Number.calls (x : ByteArray) (hx : x.size ≤ 1000000000) (w : World) : Calls Tryz.prog 84 #[.string x, .int .i64 65536] w fun e w' => e = .returned (.tuple #[.int .i64 (numB x).1, .int .i64 (numB x).2]) ∧ Below w.heap.size w w' := by
  obtain ⟨k, hk⟩ := Plain.num_ev x (by omega) 65536 (by decide)
  have h1 : ascii_Number.f k x 65536 = some (numB x) := hk k (Nat.le_refl _)
  exact (ascii_Number.calls k x 65536 (numB x).1 (numB x).2 w h1).mono fun e w' h => ⟨h.1, by first | exact h.2 | exact below_D0 h.2⟩
/-- How many bytes a body is to have. -/
def sizeL (te l : List ByteArray) : Int × Int :=
  match te with
  | _ :: _ => (0, 16)
  | [] => match l with
    | [] => (0, 0)
    | [x] => numB x
    | _ => (0, 3)
def sizeF (fs : List S67) : Int × Int := sizeL (thoseB fs tenc) (thoseB fs clen)
section
variable {w0 : World} {g : Nat} {s m p : ByteArray} {vq vf : Value} {bd : ByteArray} {vm : Value} {tg : ByteArray} {w w' : World}
set_option maxHeartbeats 4000000 in
theorem r_size.calls {A : Option Addr} {c : Nat} {fs : List S67} (h : Rd w0 g s m p vq (.slice A fs.length c) bd vm tg w) (hC : Kd.C k67 w A fs.length fs) (hn : fs.length ≤ 1000000) (hs : ∀ f ∈ fs, f.f1.size ≤ 1000000000) :
    Calls Tryz.prog 64 #[.pointer (some ⟨g, 0, none⟩)] w fun e w' => e = .returned (.tuple #[.int .i64 (sizeF fs).1, .int .i64 (sizeF fs).2]) ∧ Below w.heap.size w w' := by
  have h1 := r_those.calls h hC hn clen
  have h2 := fun (W : World) (hb : Below w.heap.size w W) => r_those.calls (h.call hb) (Kd.C_below hC hb) hn tenc
  have hl : ∀ x ∈ thoseB fs clen, x.size ≤ 1000000000 := fun x hx => by
    unfold thoseB at hx
    obtain ⟨f, hf, rfl⟩ := List.mem_map.1 hx
    exact hs f (List.mem_filter.1 hf).1
  have hlen1 := thoseB_len fs clen fs.length
  have hlen2 := thoseB_len fs tenc fs.length
  rw [List.take_length] at hlen1 hlen2
  unfold sizeF
  have H2 := Aside0.mk h2
  have HL := Aside0.mk hl
  have HS1 := Aside0.mk (Nat.le_trans hlen1 hn)
  have HS2 := Aside0.mk (Nat.le_trans hlen2 hn)
  generalize thoseB fs clen = l at h1 HL HS1 ⊢
  generalize thoseB fs tenc = te at H2 HS2 ⊢
  obtain ⟨⟨n, er⟩, hne⟩ : ∃ q, q = sizeL te l := ⟨_, rfl⟩
  rw [← hne]
  have HV := Aside0.mk hne
  clear hne
  show Calls Tryz.prog 64 #[.pointer (some ⟨g, 0, none⟩)] w fun e w' => e = .returned (.tuple #[.int .i64 n, .int .i64 er]) ∧ Below w.heap.size w w'
  unfold clen at h1
  unfold tenc at H2
  clear h hC hn hs h2 hl hlen1 hlen2
  go_enter Tryz.func64, Tryz.ntmps64
  go_wp2_with fail
  refine h1.mono ?_
  rintro e w1 ⟨v1, rfl, hR1, hb1⟩
  obtain ⟨A1, c1, rfl⟩ := Kd.R_slice hR1
  have HR1 := Aside0.mk hR1
  have HB1 := Aside0.mk hb1
  clear hR1 hb1 h1
  go_wp2_with fail
  refine (H2.out w1 HB1.out).mono ?_
  rintro e w2 ⟨v2, rfl, hR2, hb2⟩
  obtain ⟨A2, c2, rfl⟩ := Kd.R_slice hR2
  have HR2 := Aside0.mk (Kd.R_below HR1.out hb2)
  have HB2 := Aside0.mk (below_step HB1.out hb2)
  clear hR2 hb2 HR1 HB1 H2
  cases te with
  | cons x te =>
    rw [show (x :: te).length = te.length + 1 from rfl]
    obtain ⟨rfl, rfl⟩ : n = 0 ∧ er = 16 := Prod.mk.inj HV.out
    have h0 : decide (((te.length + 1 : Nat) : Int) > 0) = true := decide_eq_true (by omega)
    go_wp2_with fail
    go_ret2
    exact ⟨rfl, HB2.out⟩
  | nil =>
    rw [show ([] : List ByteArray).length = 0 from rfl]
    match l, HL, HS1, HR2, HV with
    | [], _, _, _, HV =>
      obtain ⟨rfl, rfl⟩ : n = 0 ∧ er = 0 := Prod.mk.inj HV.out
      rw [show ([] : List ByteArray).length = 0 from rfl]
      go_wp2_with fail
      go_ret2
      exact ⟨rfl, HB2.out⟩
    | [x], HL, _, HR2, HV =>
      obtain ⟨rfl, rfl⟩ : n = (numB x).1 ∧ er = (numB x).2 := Prod.mk.inj HV.out
      obtain ⟨ad, rfl, hcs⟩ := Kd.C_strings_cells (Kd.R_reads' HR2.out).2.2 (by simp)
      have k0 : w2.cell? (ad.add 0) = some (.string x) := hcs 0 _ rfl
      have k0' : w2.cell? ad = some (.string x) := k0
      have hnm := p_Number.calls x (HL.out x (by simp)) w2
      rw [show [x].length = 1 from rfl]
      clear hcs HL
      go_wp2_with fail
      refine hnm.mono ?_
      rintro e w3 ⟨rfl, hb⟩
      have HB3 := Aside0.mk (below_step HB2.out hb)
      clear hb hnm
      go_wp2_with fail
      go_ret2
      exact ⟨rfl, HB3.out⟩
    | x :: y :: r, _, _, _, HV =>
      obtain ⟨rfl, rfl⟩ : n = 0 ∧ er = 3 := Prod.mk.inj HV.out
      rw [show (x :: y :: r).length = r.length + 2 from rfl]
      have h0 : decide (((r.length + 2 : Nat) : Int) > 1) = true := decide_eq_true (by omega)
      go_wp2_with fail
      go_ret2
      exact ⟨rfl, HB2.out⟩
/-- Whether a body fits. -/
def bodyF (fs : List S67) (n : Nat) : Int := if (sizeF fs).2 ≠ 0 then (sizeF fs).2 else if (n : Int) < (sizeF fs).1 then 4 else if (n : Int) > (sizeF fs).1 then 3 else 0
theorem bodyF1 {fs : List S67} {n : Nat} (h : (sizeF fs).2 ≠ 0) : bodyF fs n = (sizeF fs).2 := if_pos h
theorem bodyF2 {fs : List S67} {n : Nat} (h : (sizeF fs).2 = 0) (h1 : (n : Int) < (sizeF fs).1) : bodyF fs n = 4 := by
  unfold bodyF
  rw [if_neg (by omega), if_pos h1]
theorem bodyF3 {fs : List S67} {n : Nat} (h : (sizeF fs).2 = 0) (h2 : (n : Int) > (sizeF fs).1) : bodyF fs n = 3 := by
  unfold bodyF
  rw [if_neg (by omega), if_neg (by omega), if_pos h2]
theorem bodyF4 {fs : List S67} {n : Nat} (h : (sizeF fs).2 = 0) (h1 : ¬ (n : Int) < (sizeF fs).1) (h2 : ¬ (n : Int) > (sizeF fs).1) : bodyF fs n = 0 := by
  unfold bodyF
  rw [if_neg (by omega), if_neg h1, if_neg h2]
set_option maxHeartbeats 4000000 in
theorem r_body.calls {A : Option Addr} {c : Nat} {fs : List S67} (h : Rd w0 g s m p vq (.slice A fs.length c) bd vm tg w) (hC : Kd.C k67 w A fs.length fs) (hn : fs.length ≤ 1000000) (hs : ∀ f ∈ fs, f.f1.size ≤ 1000000000) :
    Calls Tryz.prog 26 #[.pointer (some ⟨g, 0, none⟩)] w fun e w' => ∃ bd', e = .returned (.int .i64 (bodyF fs s.size)) ∧ Rd w0 g s m p vq (.slice A fs.length c) bd' vm tg w' ∧ Kf [62] w w' ∧ (bodyF fs s.size = 0 → bd' = s) := by
  have h1 := r_size.calls h hC hn hs
  have e1 := bodyF1 (fs := fs) (n := s.size)
  have e2 := bodyF2 (fs := fs) (n := s.size)
  have e3 := bodyF3 (fs := fs) (n := s.size)
  have e4 := bodyF4 (fs := fs) (n := s.size)
  have H := Aside0.mk h
  generalize bodyF fs s.size = r at e1 e2 e3 e4 ⊢
  generalize sizeF fs = ne at h1 e1 e2 e3 e4
  obtain ⟨n, er⟩ := ne
  simp only at h1 e1 e2 e3 e4
  clear h hC hn hs
  go_enter Tryz.func26, Tryz.ntmps26
  go_wp2_with fail
  refine h1.mono ?_
  rintro e w1 ⟨rfl, hb⟩
  have H1 := Aside0.mk (H.out.call hb)
  have K1 := Aside0.mk (Kf.of_below (ts := [62]) hb)
  have c0 : w1.cell? ⟨g, 0, none⟩ = some (.string s) := H1.out.at_.cell 0
  have c5 : w1.cell? ⟨g, 5, none⟩ = some (.string bd) := H1.out.at_.cell 5
  have f5 := H1.out.at_.frozen 5
  clear hb h1 H
  by_cases x1 : er = 0
  · subst x1
    clear e1
    by_cases x2 : (s.size : Int) < n
    · have HE := Aside0.mk (e2 rfl x2)
      have x2' := decide_eq_true x2
      clear e2 e3 e4 x2
      go_wp2_with fail
      go_ret
      exact ⟨_, by rw [HE.out]; rfl, H1.out, K1.out, fun h => by rw [HE.out] at h; cases h⟩
    · by_cases x3 : (s.size : Int) > n
      · have HE := Aside0.mk (e3 rfl x3)
        have x2' := decide_eq_false x2
        have x3' := decide_eq_true x3
        clear e2 e3 e4 x2 x3
        go_wp2_with fail
        go_ret
        exact ⟨_, by rw [HE.out]; rfl, H1.out, K1.out, fun h => by rw [HE.out] at h; cases h⟩
      · have HE := Aside0.mk (e4 rfl (by omega) (by omega))
        have x2' := decide_eq_false x2
        have x3' := decide_eq_false x3
        clear e2 e3 e4 x2 x3
        go_wp2_with fail
        go_ret
        exact ⟨s, by rw [HE.out]; rfl, H1.out.set_b s, K1.out.trans (Kf.setCell H1.out.at_ (by simp) _), fun _ => rfl⟩
  · have HE := Aside0.mk (e1 x1)
    have x1' : (er == 0) = false := beq_eq_false_iff_ne.2 x1
    have x1'' : (er != 0) = true := by rw [bne, x1']; rfl
    have HX := Aside0.mk x1
    clear e1 e2 e3 e4 x1
    go_wp2_with fail
    go_ret
    exact ⟨_, by rw [HE.out]; rfl, H1.out, K1.out, fun h => absurd (HE.out.symm.trans h) HX.out⟩
end
/-! ### Get$1 (45), IndexFunc (44), Get (25) -/
theorem g_is.calls {c : Nat} {nm : ByteArray} {w : World} (h : Blk.At c #[.string nm] 9 w) (f : S67) :
    Calls Tryz.prog 41 #[.agg #[.string f.f0, .string f.f1], .pointer (some ⟨c, 0, none⟩)] w fun e w' => e = .returned (.bool (isF nm f)) ∧ Below w.heap.size w w' := by
  obtain ⟨W1, hW1⟩ : ∃ W, W = w.alloc (.cells #[.string f.f0, .string f.f1] 67) := ⟨_, rfl⟩
  have ha : Blk.At w.heap.size #[.string f.f0, .string f.f1] 67 W1 := hW1 ▸ Blk.At.new w _ _
  have k0 : W1.cell? ⟨w.heap.size, 0, none⟩ = some (.string f.f0) := ha.cell 0
  have kc : W1.cell? ⟨c, 0, none⟩ = some (.string nm) := (hW1 ▸ h.alloc _ : Blk.At c #[.string nm] 9 W1).cell 0
  have HB := Aside0.mk (show Below w.heap.size w W1 from hW1 ▸ below_alloc (Below.refl _ _) _)
  replace hW1 := hW1.symm
  clear ha h
  go_enter Tryz.func41, Tryz.ntmps41
  go_wp2_with fail
  go_ret
  exact ⟨rfl, HB.out⟩
set_option maxHeartbeats 2000000 in
theorem g_IndexFunc.calls {A : Option Addr} {cap c : Nat} {fs : List S67} {nm : ByteArray} {w : World} (hC : Kd.C k67 w A fs.length fs) (hc : Blk.At c #[.string nm] 9 w) (hN : fs.length ≤ 1000000) :
    Calls Tryz.prog 40 #[.slice A fs.length cap, .func (.func 41) #[] #[.pointer (some ⟨c, 0, none⟩)]] w fun e w' => Below w.heap.size w w' ∧ ∃ i : Int, e = .returned (.int .i64 i) ∧ ((i = -1 ∧ ∀ f ∈ fs, isF nm f = false) ∨ ∃ n : Nat, i = n ∧ ∃ hn : n < fs.length, isF nm fs[n] = true ∧ ∀ f ∈ fs.take n, isF nm f = false) := by
  have HC := Aside0.mk hC
  have HCC := Aside0.mk hc
  have HN := Aside0.mk hN
  clear hC hc hN
  go_enter Tryz.func40, Tryz.ntmps40
  go_wp2_with fail
  go_loopw [8] (fun j wr => ∃ n : Nat, n ≤ fs.length ∧ j = .int .i64 n ∧ Aside0 (Below w.heap.size w wr) ∧ Aside0 (∀ f ∈ fs.take n, isF nm f = false)) (fun j _ => fs.length - (intOf j).toNat)
  case atStart => exact ⟨0, Nat.zero_le _, rfl, ⟨Below.refl _ _⟩, ⟨by simp⟩⟩
  case round =>
    obtain ⟨n, hn, rfl, HB, HP⟩ := hrel
    by_cases hlt : n < fs.length
    · obtain ⟨ad, rfl, hc0, hc1⟩ := at_T67 (Kd.C_below HC.out HB.out) (n : Int) (Int.natCast_nonneg _) (by omega)
      rw [Int.toNat_natCast] at hc0 hc1
      rw [show rd_T67 fs (n : Int) = fs[n] from by simp [rd_T67, hlt]] at hc0 hc1
      have hpr := g_is.calls (HCC.out.below HB.out HCC.out.lt) fs[n]
      have HLT := Aside0.mk hlt
      have en := w_succ (i := n) (by have := HN.out; omega)
      obtain ⟨f, hf⟩ : ∃ f, f = fs[n] := ⟨_, rfl⟩
      have HS := Aside0.mk hf
      rw [← hf] at hc0 hc1 hpr
      clear hf
      go_wp2_with fail
      refine hpr.mono ?_
      rintro e w4 ⟨rfl, hb⟩
      have HB4 := Aside0.mk (below_step HB.out hb)
      clear hpr hc0 hc1 hb HB
      cases hst : isF nm f with
      | false =>
        go_wp2_with fail
        rw [en]
        go_roundw
        case rel => exact ⟨n + 1, HLT.out, rfl, HB4, ⟨fun k hk => by
          rw [List.take_succ_eq_append_getElem HLT.out] at hk
          rcases List.mem_append.1 hk with hk | hk
          · exact HP.out k hk
          · rw [List.mem_singleton.1 hk, ← HS.out]; exact hst⟩⟩
        case measure =>
          simp only [intOf, Int.toNat_natCast]
          have := HLT.out
          omega
      | true =>
        go_wp2_with fail
        go_ret
        exact ⟨HB4.out, n, rfl, .inr ⟨n, rfl, HLT.out, by rw [← HS.out]; exact hst, HP.out⟩⟩
    · obtain rfl : n = fs.length := by omega
      go_wp2_with fail
      go_ret
      have hp := HP.out
      rw [List.take_length] at hp
      exact ⟨HB.out, -1, rfl, .inl ⟨rfl, hp⟩⟩
/-- The first field of a name. -/
def getF (fs : List S67) (name : ByteArray) : ByteArray × Bool :=
  match fs.find? (isF (lowB name)) with
  | some f => (f.f1, true)
  | none => (⟨#[]⟩, false)
theorem getF_none {fs : List S67} {name : ByteArray} (h : ∀ f ∈ fs, isF (lowB name) f = false) : getF fs name = (⟨#[]⟩, false) := by
  unfold getF
  rw [List.find?_eq_none.2 (fun f hf => by rw [h f hf]; simp)]
theorem getF_some {fs : List S67} {name : ByteArray} {n : Nat} (hn : n < fs.length) (h1 : isF (lowB name) fs[n] = true) (h : ∀ f ∈ fs.take n, isF (lowB name) f = false) : getF fs name = (fs[n].f1, true) := by
  unfold getF
  have : fs.find? (isF (lowB name)) = some fs[n] := by
    rw [List.find?_eq_some_iff_getElem]
    refine ⟨h1, n, hn, rfl, fun j hj => ?_⟩
    have hm : fs[j] ∈ fs.take n := List.mem_take_iff_getElem.2 ⟨j, by omega, rfl⟩
    rw [h _ hm]
    rfl
  rw [this]
set_option maxHeartbeats 2000000 in
theorem p_Get.calls {A Aq Am : Option Addr} {c nq cq nm cm : Nat} {fs : List S67} {w : World} (hC : Kd.C k67 w A fs.length fs) (hN : fs.length ≤ 1000000) (m p bd name : ByteArray) (hs : name.size ≤ 1000000000) :
    Calls Tryz.prog 13 #[.agg #[.string m, .string p, .slice Aq nq cq, .slice A fs.length c, .string bd, .slice Am nm cm], .string name] w fun e w' => e = .returned (.tuple #[.string (getF fs name).1, .bool (getF fs name).2]) ∧ Below w.heap.size w w' := by
  obtain ⟨W1, hW1⟩ : ∃ W, W = w.alloc (.cells #[.string m, .string p, .slice Aq nq cq, .slice A fs.length c, .string bd, .slice Am nm cm] 26) := ⟨_, rfl⟩
  obtain ⟨W2, hW2⟩ : ∃ W, W = W1.alloc (.cells #[.string name] 9) := ⟨_, rfl⟩
  have HR2 := Aside0.mk (show Blk.At w.heap.size #[.string m, .string p, .slice Aq nq cq, .slice A fs.length c, .string bd, .slice Am nm cm] 26 W2 from by rw [hW2, hW1]; exact (Blk.At.new w _ _).alloc _)
  have HN2 := Aside0.mk (show Blk.At W1.heap.size #[.string name] 9 W2 from hW2 ▸ Blk.At.new W1 _ _)
  have HBW := Aside0.mk (show Below w.heap.size w W2 from by rw [hW2, hW1]; exact below_alloc (below_alloc (Below.refl _ _) _) _)
  have HS1 := Aside0.mk (show w.heap.size < W1.heap.size from by rw [hW1]; exact Nat.lt_of_lt_of_eq (Nat.lt_succ_self _) (Array.size_push _).symm)
  have HC := Aside0.mk hC
  have HNN := Aside0.mk hN
  have hlo := p_Lower.calls name hs W2
  have kn : W2.cell? ⟨W1.heap.size, 0, none⟩ = some (.string name) := HN2.out.cell 0
  replace hW1 := hW1.symm
  replace hW2 := hW2.symm
  have HG := Aside0.mk (fun (n : Nat) (hn : n < fs.length) (h1 : isF (lowB name) fs[n] = true) h => getF_some hn h1 h)
  have HG0 := Aside0.mk (getF_none (fs := fs) (name := name))
  generalize getF fs name = r at HG HG0 ⊢
  clear hC hN hs
  go_enter Tryz.func13, Tryz.ntmps13
  go_wp2_with fail
  refine hlo.mono ?_
  rintro e w3 ⟨rfl, hb⟩
  have HR3 := Aside0.mk (HR2.out.below hb HR2.out.lt)
  have HN3 := Aside0.mk (HN2.out.below hb HN2.out.lt)
  have HB3 := Aside0.mk (below_step HBW.out hb)
  clear hb hlo kn HR2 HN2 HBW
  have HR4 := Aside0.mk (HR3.out.set_other (Nat.ne_of_gt HS1.out) 0 (.string (lowB name)))
  have HN4 := Aside0.mk (HN3.out.set 0 (.string (lowB name)))
  have HB4 := Aside0.mk (HB3.out.setCell (p := ⟨W1.heap.size, 0, none⟩) (Nat.le_of_lt HS1.out) (.string (lowB name)))
  have kn : w3.cell? ⟨W1.heap.size, 0, none⟩ = some (.string name) := HN3.out.cell 0
  have fn := HN3.out.frozen 0
  obtain ⟨W4, hW4⟩ : ∃ W, W = w3.setCell ⟨W1.heap.size, 0, none⟩ (.string (lowB name)) := ⟨_, rfl⟩
  rw [← hW4] at HR4 HN4 HB4
  have k3 : W4.cell? ⟨w.heap.size, 3, none⟩ = some (.slice A fs.length c) := HR4.out.cell 3
  have hix := g_IndexFunc.calls (cap := c) (Kd.C_below HC.out HB4.out) HN4.out HNN.out
  replace hW4 := hW4.symm
  go_wp2_with fail
  refine hix.mono ?_
  rintro e w5 ⟨hb, i, rfl, hor⟩
  have HR5 := Aside0.mk (HR4.out.below hb HR4.out.lt)
  have HB5 := Aside0.mk (below_step HB4.out hb)
  clear hb hix kn fn k3
  rcases hor with ⟨rfl, h0⟩ | ⟨n, rfl, hn, h1, h2⟩
  · have HE := Aside0.mk (HG0.out h0)
    clear h0
    go_wp2_with fail
    go_ret2
    exact ⟨by rw [HE.out]; rfl, HB5.out⟩
  · have HE := Aside0.mk (HG.out n hn h1 h2)
    obtain ⟨ad, rfl, hc0, hc1⟩ := at_T67 (Kd.C_below HC.out HB5.out) (n : Int) (Int.natCast_nonneg _) (by omega)
    rw [Int.toNat_natCast] at hc0 hc1
    rw [show rd_T67 fs (n : Int) = fs[n] from by simp [rd_T67, hn]] at hc0 hc1
    have k3 : w5.cell? ⟨w.heap.size, 3, none⟩ = some (.slice (some ad) fs.length c) := HR5.out.cell 3
    have h0 : decide ((n : Int) < 0) = false := decide_eq_false (by omega)
    clear h1 h2 HG HG0
    generalize fs[n] = f at hc0 hc1 HE
    go_wp2_with fail
    go_ret2
    exact ⟨by rw [HE.out]; rfl, HB5.out⟩
/-! ### pairs (15) -/
def qmark : ByteArray := ⟨#[63]⟩
def semi : ByteArray := ⟨#[59]⟩
def formT : ByteArray := ⟨#[97, 112, 112, 108, 105, 99, 97, 116, 105, 111, 110, 47, 120, 45, 119, 119, 119, 45, 102, 111, 114, 109, 45, 117, 114, 108, 101, 110, 99, 111, 100, 101, 100]⟩
def ctype : ByteArray := ⟨#[99, 111, 110, 116, 101, 110, 116, 45, 116, 121, 112, 101]⟩
def parseP (x : ByteArray) : List S105 × Int := ((Plain.told3 (Plain.D x)).1.map Plain.p105, (Plain.told3 (Plain.D x)).2)
def sameB (a b : ByteArray) : Bool := decide (a.size = b.size) && ((lowB a).toList == (lowB b).toList)
theorem sameB_eq (a b : ByteArray) (ha : a.size ≤ 1000000000) (hb : b.size ≤ 1000000000) : ascii_Same.f a b = some (sameB a b) := by
  unfold ascii_Same.f sameB
  by_cases h : a.size = b.size
  · rw [if_pos (by omega)]
    unfold ascii_Lower.f
    rw [if_pos (by omega), if_pos (by omega)]
    simp [h, lowB, Lib.toList_data]
  · rw [if_neg (by omega)]
    simp [h]
/-- Is what a request bears a form? -/
def isForm (fs : List S67) : Bool := sameB (trimB (cutB (getF fs ctype).1 semi).1) formT
/-- The query, the form, and whether they may be. -/
def pairsF (tg bd : ByteArray) (fs : List S67) : List S105 × List S105 × Int :=
  if (if (cutB tg qmark).2.2 = true then parseP (cutB tg qmark).2.1 else ([], 0)).2 = 0 ∧ isForm fs = true then ((if (cutB tg qmark).2.2 = true then parseP (cutB tg qmark).2.1 else ([], 0)).1, (parseP bd).1, (parseP bd).2)
  else ((if (cutB tg qmark).2.2 = true then parseP (cutB tg qmark).2.1 else ([], 0)).1, [], (if (cutB tg qmark).2.2 = true then parseP (cutB tg qmark).2.1 else ([], 0)).2)
theorem getF_size {fs : List S67} (hs : ∀ f ∈ fs, f.f1.size ≤ 1000000000) (name : ByteArray) : (getF fs name).1.size ≤ 1000000000 := by
  unfold getF
  split
  · rename_i f hf
    exact hs f (List.mem_of_find?_eq_some hf)
  · exact Nat.zero_le _
section
variable {w0 : World} {g : Nat} {s m p : ByteArray} {vq vf : Value} {bd : ByteArray} {vm : Value} {tg : ByteArray} {w w' : World}
theorem p_Same.calls (a b : ByteArray) (ha : a.size ≤ 1000000000) (hb : b.size ≤ 1000000000) (w : World) : Calls Tryz.prog 33 #[.string a, .string b] w fun e w' => e = .returned (.bool (sameB a b)) ∧ Below w.heap.size w w' :=
  (ascii_Same.calls a b _ w (sameB_eq a b ha hb)).mono fun e w' h => ⟨h.1, by first | exact h.2 | exact below_D0 h.2⟩
theorem p_Parse.calls (hT : Tabs w) (x : ByteArray) (hx : x.size ≤ 100000000) : Calls Tryz.prog 65 #[.string x] w fun e w' => ∃ v, e = .returned (.tuple #[v, .int .i64 (parseP x).2]) ∧ Kd.R k105 105 w' w.heap.size (fun _ => True) v (parseP x).1 ∧ Below w.heap.size w w' := by
  obtain ⟨k, hk⟩ := Plain.parse_ev x hx
  exact percent_Parse.calls k x (parseP x).1 (parseP x).2 w (hk k (Nat.le_refl _)) ⟨hT⟩
/-- What pairs leaves. -/
def PairsPost (w0 : World) (g : Nat) (s m : ByteArray) (vf : Value) (bd tg : ByteArray) (path : ByteArray) (r : List S105 × List S105 × Int) (w : World) (e : Ending) (w' : World) : Prop := ∃ Aq cq Am cm, e = .returned (.int .i64 r.2.2) ∧ Rd w0 g s m path (.slice Aq r.1.length cq) vf bd (.slice Am r.2.1.length cm) tg w' ∧ Kd.R k105 105 w' w0.heap.size (fun _ => True) (.slice Aq r.1.length cq) r.1 ∧ Kd.R k105 105 w' w0.heap.size (fun _ => True) (.slice Am r.2.1.length cm) r.2.1 ∧ Kf [62] w w'
set_option maxHeartbeats 8000000 in
theorem r_pairs.calls {A : Option Addr} {c : Nat} {fs : List S67} (h : Rd w0 g s m p (.slice none 0 0) (.slice A fs.length c) bd (.slice none 0 0) tg w) (hR : Kd.R k67 67 w w0.heap.size (fun _ => True) (.slice A fs.length c) fs) (hn : fs.length ≤ 1000000) (hs : ∀ f ∈ fs, f.f1.size ≤ 1000000000) (hbd : bd.size ≤ 100000000) (htg : tg.size ≤ 100000000) :
    Calls Tryz.prog 27 #[.pointer (some ⟨g, 0, none⟩)] w (PairsPost w0 g s m (.slice A fs.length c) bd tg (cutB tg qmark).1 (pairsF tg bd fs) w) := by
  have hct := fun (W : World) (hT : Tabs W) => p_Cut.calls hT tg qmark (by omega)
  have hqs := Nat.le_trans (cutB_le tg qmark).2 htg
  have hgs := getF_size hs ctype
  have hcs := fun (W : World) (hT : Tabs W) => p_Cut.calls hT (getF fs ctype).1 semi hgs
  have hts := Nat.le_trans (cutB_le (getF fs ctype).1 semi).1 hgs
  have htr := p_Trim.calls (cutB (getF fs ctype).1 semi).1 hts
  have hsm := p_Same.calls (trimB (cutB (getF fs ctype).1 semi).1) formT (Nat.le_trans (trimB_le _) hts) (by decide)
  have hpb := fun (W : World) (hT : Tabs W) => p_Parse.calls hT bd hbd
  have hgt := fun (W : World) (A_ Aq : Option Addr) (cq nq : Nat) (hC : Kd.C k67 W A fs.length fs) (pt : ByteArray) => p_Get.calls (A := A) (Aq := Aq) (Am := none) (c := c) (nq := nq) (cq := cq) (nm := 0) (cm := 0) hC hn m pt bd ctype (by decide)
  obtain ⟨⟨pt, qx, has⟩, hcut⟩ : ∃ q, q = cutB tg qmark := ⟨_, rfl⟩
  have hpf : pairsF tg bd fs = if (if has = true then parseP qx else ([], 0)).2 = 0 ∧ isForm fs = true then ((if has = true then parseP qx else ([], 0)).1, (parseP bd).1, (parseP bd).2) else ((if has = true then parseP qx else ([], 0)).1, [], (if has = true then parseP qx else ([], 0)).2) := by unfold pairsF; rw [← hcut]
  have hpq := fun (W : World) (hT : Tabs W) => p_Parse.calls hT qx (by rw [← hcut] at hqs; exact hqs)
  rw [hpf, ← hcut]
  rw [← hcut] at hct
  have hif : isForm fs = sameB (trimB (cutB (getF fs ctype).1 semi).1) formT := rfl
  rw [hif]
  show Calls Tryz.prog 27 #[.pointer (some ⟨g, 0, none⟩)] w (PairsPost w0 g s m (.slice A fs.length c) bd tg pt _ w)
  generalize getF fs ctype = gf at hcs htr hsm hgt hgs hts ⊢
  obtain ⟨gt, gb⟩ := gf
  simp only at hcs htr hsm hgt hgs hts ⊢
  generalize trimB (cutB gt semi).1 = tm at htr hsm ⊢
  generalize cutB gt semi = gc at hcs htr hts ⊢
  obtain ⟨g1, g2, g3⟩ := gc
  simp only at hcs htr hts hct ⊢
  generalize sameB tm formT = sm at hsm ⊢
  have HBP := Aside0.mk hpb
  have HQP := Aside0.mk hpq
  have HGT := Aside0.mk hgt
  have HCS := Aside0.mk hcs
  have HTR := Aside0.mk htr
  have HSM := Aside0.mk hsm
  have HRF := Aside0.mk hR
  generalize parseP bd = pb at HBP ⊢
  obtain ⟨pbl, pbe⟩ := pb
  generalize parseP qx = pq at HQP ⊢
  obtain ⟨pql, pqe⟩ := pq
  have H := Aside0.mk h
  have c7 : w.cell? ⟨g, 7, none⟩ = some (.string tg) := H.out.at_.cell 7
  replace hct := hct w H.out.tab
  clear hcut hpf hif hqs hgs hts hpb hpq hgt hcs htr hsm hR hn hs hbd htg h
  unfold qmark at hct
  unfold semi at HCS
  unfold formT at HSM
  unfold ctype at HGT
  generalize hr : (if (if has = true then (pql, pqe) else ([], 0)).2 = 0 ∧ sm = true then ((if has = true then (pql, pqe) else ([], 0)).1, pbl, pbe) else ((if has = true then (pql, pqe) else ([], 0)).1, ([] : List S105), (if has = true then (pql, pqe) else ([], 0)).2)) = r
  replace hr := Aside0.mk hr
  go_enter Tryz.func27, Tryz.ntmps27
  go_wp2_with fail
  refine hct.mono ?_
  rintro e w1 ⟨rfl, hb⟩
  have H1 := Aside0.mk (H.out.call hb)
  have K1 := Aside0.mk (Kf.of_below (ts := [62]) hb)
  clear hb hct H c7
  have c2 : w1.cell? ⟨g, 2, none⟩ = some (.string p) := H1.out.at_.cell 2
  have f2 := H1.out.at_.frozen 2
  have H2 := Aside0.mk (H1.out.set_p pt)
  have K2 := Aside0.mk (K1.out.trans (Kf.setCell H1.out.at_ (by simp) (j := 2) (.string pt)))
  obtain ⟨w2, hw2⟩ : ∃ W, W = w1.setCell ⟨g, 2, none⟩ (.string pt) := ⟨_, rfl⟩
  rw [← hw2] at H2 K2
  replace hw2 := hw2.symm
  cases has with
  | false =>
    have HQ2 := Aside0.mk (Kd.R_nil k105 105 w2 w0.heap.size (fun _ => True))
    have x1 : w2.cell? ⟨g, 1, none⟩ = some (.string m) := H2.out.at_.cell 1
    have x2 : w2.cell? ⟨g, 2, none⟩ = some (.string pt) := H2.out.at_.cell 2
    have x3 : w2.cell? ⟨g, 3, none⟩ = some (.slice none 0 0) := H2.out.at_.cell 3
    have x4 : w2.cell? ⟨g, 4, none⟩ = some (.slice A fs.length c) := H2.out.at_.cell 4
    have x5 : w2.cell? ⟨g, 5, none⟩ = some (.string bd) := H2.out.at_.cell 5
    have x6 : w2.cell? ⟨g, 6, none⟩ = some (.slice none 0 0) := H2.out.at_.cell 6
    have hgt := HGT.out w2 none none 0 0 (Kd.R_reads' (K2.out.R HRF.out (by intro q hq; rw [List.mem_singleton.1 hq]; decide))).2.2 pt
    go_wp2_with fail
    clear x1 x2 x3 x4 x6
    refine hgt.mono ?_
    rintro e w5 ⟨rfl, hb⟩
    have H5 := Aside0.mk (H2.out.call hb)
    have K5 := Aside0.mk (K2.out.call hb)
    have HQ5 := Aside0.mk (Kd.R_below HQ2.out hb)
    clear hb hgt x5
    have hcs := HCS.out w5 H5.out.tab
    go_wp2_with fail
    refine hcs.mono ?_
    rintro e w6 ⟨rfl, hb⟩
    have H6 := Aside0.mk (H5.out.call hb)
    have K6 := Aside0.mk (K5.out.call hb)
    have HQ6 := Aside0.mk (Kd.R_below HQ5.out hb)
    clear hb hcs H5 K5 HQ5
    have htr := HTR.out w6
    go_wp2_with fail
    refine htr.mono ?_
    rintro e w7 ⟨rfl, hb⟩
    have H7 := Aside0.mk (H6.out.call hb)
    have K7 := Aside0.mk (K6.out.call hb)
    have HQ7 := Aside0.mk (Kd.R_below HQ6.out hb)
    clear hb htr H6 K6 HQ6
    have hsm := HSM.out w7
    go_wp2_with fail
    refine hsm.mono ?_
    rintro e w8 ⟨rfl, hb⟩
    have H8 := Aside0.mk (H7.out.call hb)
    have K8 := Aside0.mk (K7.out.call hb)
    have HQ8 := Aside0.mk (Kd.R_below HQ7.out hb)
    clear hb hsm H7 K7 HQ7
    cases sm with
    | false =>
      go_wp2_with fail
      go_ret
      obtain rfl : r = ([], [], 0) := by rw [← hr.out]; simp
      exact ⟨none, 0, none, 0, rfl, H8.out, HQ8.out, Kd.R_nil _ _ _ _ _, K8.out⟩
    | true =>
      have x5 : w8.cell? ⟨g, 5, none⟩ = some (.string bd) := H8.out.at_.cell 5
      have hpb := HBP.out w8 H8.out.tab
      go_wp2_with fail
      refine hpb.mono ?_
      rintro e w9 ⟨v9, rfl, hV, hb⟩
      obtain ⟨A9, c9, rfl⟩ := Kd.R_slice hV
      have H9 := Aside0.mk (H8.out.call hb)
      have K9 := Aside0.mk (K8.out.call hb)
      have HQ9 := Aside0.mk (Kd.R_below HQ8.out hb)
      have HV9 := Aside0.mk (Kd.R_lower hV H8.out.below.size)
      have x6 : w9.cell? ⟨g, 6, none⟩ = some (.slice none 0 0) := H9.out.at_.cell 6
      have f6 := H9.out.at_.frozen 6
      clear hb hpb hV H8 K8 HQ8 x5
      go_wp2_with fail
      go_ret
      obtain rfl : r = ([], pbl, pbe) := by rw [← hr.out]; simp
      exact ⟨none, 0, A9, c9, rfl, H9.out.set_v _, Kd.R_set HQ9.out H9.out.at_ (by intro q hq; rw [List.mem_singleton.1 hq]; decide) _ _, Kd.R_set HV9.out H9.out.at_ (by intro q hq; rw [List.mem_singleton.1 hq]; decide) _ _, K9.out.trans (Kf.setCell H9.out.at_ (by simp) _)⟩
  | true =>
    have hpq := HQP.out w2 H2.out.tab
    go_wp2_with fail
    clear c2 f2
    refine hpq.mono ?_
    rintro e w3 ⟨v3, rfl, hV, hb⟩
    obtain ⟨A3, c3, rfl⟩ := Kd.R_slice hV
    have H3 := Aside0.mk (H2.out.call hb)
    have K3 := Aside0.mk (K2.out.call hb)
    have HV3 := Aside0.mk (Kd.R_lower hV H2.out.below.size)
    have z3 : w3.cell? ⟨g, 3, none⟩ = some (.slice none 0 0) := H3.out.at_.cell 3
    have f3 := H3.out.at_.frozen 3
    clear hb hpq hV
    have H4 := Aside0.mk (H3.out.set_q (.slice A3 pql.length c3))
    have K4 := Aside0.mk (K3.out.trans (Kf.setCell H3.out.at_ (by simp) (j := 3) (.slice A3 pql.length c3)))
    have HQ4 := Aside0.mk (Kd.R_set HV3.out H3.out.at_ (by intro q hq; rw [List.mem_singleton.1 hq]; decide) 3 (.slice A3 pql.length c3))
    obtain ⟨w4, hw4⟩ : ∃ W, W = w3.setCell ⟨g, 3, none⟩ (.slice A3 pql.length c3) := ⟨_, rfl⟩
    rw [← hw4] at H4 K4 HQ4
    replace hw4 := hw4.symm
    have x1 : w4.cell? ⟨g, 1, none⟩ = some (.string m) := H4.out.at_.cell 1
    have x2 : w4.cell? ⟨g, 2, none⟩ = some (.string pt) := H4.out.at_.cell 2
    have x3 : w4.cell? ⟨g, 3, none⟩ = some (.slice A3 pql.length c3) := H4.out.at_.cell 3
    have x4 : w4.cell? ⟨g, 4, none⟩ = some (.slice A fs.length c) := H4.out.at_.cell 4
    have x5 : w4.cell? ⟨g, 5, none⟩ = some (.string bd) := H4.out.at_.cell 5
    have x6 : w4.cell? ⟨g, 6, none⟩ = some (.slice none 0 0) := H4.out.at_.cell 6
    have hgt := HGT.out w4 none A3 c3 pql.length (Kd.R_reads' (K4.out.R HRF.out (by intro q hq; rw [List.mem_singleton.1 hq]; decide))).2.2 pt
    go_wp2_with fail
    clear x1 x2 x3 x4 x6
    refine hgt.mono ?_
    rintro e w5 ⟨rfl, hb⟩
    have H5 := Aside0.mk (H4.out.call hb)
    have K5 := Aside0.mk (K4.out.call hb)
    have HQ5 := Aside0.mk (Kd.R_below HQ4.out hb)
    clear hb hgt x5
    have hcs := HCS.out w5 H5.out.tab
    go_wp2_with fail
    refine hcs.mono ?_
    rintro e w6 ⟨rfl, hb⟩
    have H6 := Aside0.mk (H5.out.call hb)
    have K6 := Aside0.mk (K5.out.call hb)
    have HQ6 := Aside0.mk (Kd.R_below HQ5.out hb)
    clear hb hcs H5 K5 HQ5
    by_cases hz : pqe = 0
    · subst hz
      have htr := HTR.out w6
      go_wp2_with fail
      refine htr.mono ?_
      rintro e w7 ⟨rfl, hb⟩
      have H7 := Aside0.mk (H6.out.call hb)
      have K7 := Aside0.mk (K6.out.call hb)
      have HQ7 := Aside0.mk (Kd.R_below HQ6.out hb)
      clear hb htr H6 K6 HQ6
      have hsm := HSM.out w7
      go_wp2_with fail
      refine hsm.mono ?_
      rintro e w8 ⟨rfl, hb⟩
      have H8 := Aside0.mk (H7.out.call hb)
      have K8 := Aside0.mk (K7.out.call hb)
      have HQ8 := Aside0.mk (Kd.R_below HQ7.out hb)
      clear hb hsm H7 K7 HQ7
      cases sm with
      | false =>
        go_wp2_with fail
        go_ret
        obtain rfl : r = (pql, [], 0) := by rw [← hr.out]; simp
        exact ⟨A3, c3, none, 0, rfl, H8.out, HQ8.out, Kd.R_nil _ _ _ _ _, K8.out⟩
      | true =>
        have x5 : w8.cell? ⟨g, 5, none⟩ = some (.string bd) := H8.out.at_.cell 5
        have hpb := HBP.out w8 H8.out.tab
        go_wp2_with fail
        refine hpb.mono ?_
        rintro e w9 ⟨v9, rfl, hV, hb⟩
        obtain ⟨A9, c9, rfl⟩ := Kd.R_slice hV
        have H9 := Aside0.mk (H8.out.call hb)
        have K9 := Aside0.mk (K8.out.call hb)
        have HQ9 := Aside0.mk (Kd.R_below HQ8.out hb)
        have HV9 := Aside0.mk (Kd.R_lower hV H8.out.below.size)
        have x6 : w9.cell? ⟨g, 6, none⟩ = some (.slice none 0 0) := H9.out.at_.cell 6
        have f6 := H9.out.at_.frozen 6
        clear hb hpb hV H8 K8 HQ8 x5
        go_wp2_with fail
        go_ret
        obtain rfl : r = (pql, pbl, pbe) := by rw [← hr.out]; simp
        exact ⟨A3, c3, A9, c9, rfl, H9.out.set_v _, Kd.R_set HQ9.out H9.out.at_ (by intro q hq; rw [List.mem_singleton.1 hq]; decide) _ _, Kd.R_set HV9.out H9.out.at_ (by intro q hq; rw [List.mem_singleton.1 hq]; decide) _ _, K9.out.trans (Kf.setCell H9.out.at_ (by simp) _)⟩
    · have hz' : (pqe == 0) = false := beq_eq_false_iff_ne.2 hz
      have HZ := Aside0.mk hz
      clear hz
      go_wp2_with fail
      go_ret
      obtain rfl : r = (pql, [], pqe) := by rw [← hr.out]; simp [HZ.out]
      exact ⟨A3, c3, none, 0, rfl, H6.out, HQ6.out, Kd.R_nil _ _ _ _ _, K6.out⟩
end
/-! ### Parse (6) -/
def crlf2 : ByteArray := ⟨#[13, 10, 13, 10]⟩
/-- A request's fields, behind those told. -/
def fieldsR : Nat → ByteArray → List S67 → Option (List S67)
  | 0, s, fs => if s.size = 0 then some fs else none
  | n + 1, s, fs => if s.size = 0 then some fs else match fieldL (cutB s crlf).1 with
    | none => none
    | some f => fieldsR n (cutB s crlf).2.1 (fs ++ [f])
theorem fieldsR_end {n : Nat} {s : ByteArray} {fs : List S67} (h : s.size = 0) : fieldsR n s fs = some fs := by
  cases n <;> simp [fieldsR, h]
theorem fieldsR_some {n : Nat} {s : ByteArray} {fs : List S67} {f : S67} (h : s.size ≠ 0) (hf : fieldL (cutB s crlf).1 = some f) : fieldsR (n + 1) s fs = fieldsR n (cutB s crlf).2.1 (fs ++ [f]) := by
  rw [fieldsR, if_neg h, hf]
theorem fieldsR_none {n : Nat} {s : ByteArray} {fs : List S67} (h : s.size ≠ 0) (hf : fieldL (cutB s crlf).1 = none) : fieldsR (n + 1) s fs = none := by
  rw [fieldsR, if_neg h, hf]
theorem cutB_less {s : ByteArray} (h : s.size ≠ 0) : (cutB s crlf).2.1.size < s.size := by
  have hd := data_len s
  unfold cutB Lib.cut
  split
  · show (List.drop _ _).toArray.size < _
    rw [List.size_toArray, List.length_drop, hd]
    have : crlf.data.toList.length = 2 := rfl
    omega
  · show 0 < s.size
    omega
theorem fieldL_size {l : ByteArray} {f : S67} (h : fieldL l = some f) : f.f1.size ≤ l.size := by
  unfold fieldL at h
  split at h
  · obtain rfl := (Option.some.inj h).symm
    exact Nat.le_trans (trimB_le _) (cutB_le _ _).2
  · cases h
/-- A request as it was read. -/
structure Rq where
  m : ByteArray
  p : ByteArray
  q : List S105
  f : List S67
  b : ByteArray
  v : List S105
def Rq0 : Rq := ⟨⟨#[]⟩, ⟨#[]⟩, [], [], ⟨#[]⟩, []⟩
/-- What stands behind the head. -/
def restR (b : ByteArray) (n : Nat) : ByteArray := b.extract n b.size
def tailR (m t : ByteArray) (fs : List S67) (bd : ByteArray) : Int × Rq :=
  if bodyF fs bd.size ≠ 0 then (bodyF fs bd.size, Rq0)
  else if (pairsF t bd fs).2.2 ≠ 0 then ((pairsF t bd fs).2.2, Rq0)
  else (0, ⟨m, (cutB t qmark).1, (pairsF t bd fs).1, fs, bd, (pairsF t bd fs).2.1⟩)
def headR (hd bd : ByteArray) : Int × Rq :=
  match firstL (lsB (cutB (hd ++ crlf) crlf).1) with
  | none => (3, Rq0)
  | some (m, t) => match fieldsR (cutB (hd ++ crlf) crlf).2.1.size (cutB (hd ++ crlf) crlf).2.1 [] with
    | none => (3, Rq0)
    | some fs => tailR m t fs bd
/-- The head's end. -/
def cutH (b : ByteArray) : ByteArray × ByteArray × Bool := cutB (b.extract 0 (min b.size 8192)) crlf2
def parseR (b : ByteArray) : Int × Rq :=
  if (cutH b).2.2 = true then headR (cutH b).1 (restR b ((cutH b).1.size + 4))
  else if b.size > 8192 then (5, Rq0) else (4, Rq0)
/-- What Parse answers. -/
def ParsePost (r : Int × Rq) (w : World) (e : Ending) (w' : World) : Prop := ∃ Aq cq Af cf Am cm, e = .returned (.tuple #[.agg #[.string r.2.m, .string r.2.p, .slice Aq r.2.q.length cq, .slice Af r.2.f.length cf, .string r.2.b, .slice Am r.2.v.length cm], .int .i64 r.1]) ∧ Kd.R k105 105 w' w.heap.size (fun _ => True) (.slice Aq r.2.q.length cq) r.2.q ∧ Kd.R k67 67 w' w.heap.size (fun _ => True) (.slice Af r.2.f.length cf) r.2.f ∧ Kd.R k105 105 w' w.heap.size (fun _ => True) (.slice Am r.2.v.length cm) r.2.v ∧ Below w.heap.size w w'
theorem ParsePost.no {n : Int} {w w' : World} (h : Below w.heap.size w w') : ParsePost (n, Rq0) w (.returned (.tuple #[.agg #[.string ⟨#[]⟩, .string ⟨#[]⟩, .slice none 0 0, .slice none 0 0, .string ⟨#[]⟩, .slice none 0 0], .int .i64 n])) w' := ⟨none, 0, none, 0, none, 0, rfl, Kd.R_nil _ _ _ _ _, Kd.R_nil _ _ _ _ _, Kd.R_nil _ _ _ _ _, h⟩
theorem results_row2 {fn : Func} {p u : Tmp} {ty : TypeId} (h : fn.results = #[.cell p ty, .tmp u]) {tmps : Array Value} {w : World} {g : Nat} {cs : Array Value}
    (hp : tmps.getD p undef = .pointer (some ⟨g, 0, none⟩)) (hl : (loadVar ty ⟨g, 0, none⟩).run Tryz.prog w = .ok (.agg cs) w) :
    (results fn tmps).run Tryz.prog w = .ok (.tuple #[.agg cs, tmps.getD u undef]) w := by
  have hp' : tmps[p]?.getD undef = .pointer (some ⟨g, 0, none⟩) := by simpa using hp
  simp [results, h, Sem.run_bind, Result.andThen, hp', asAddr, hl]
/-- Six cells written. -/
theorem at6 {r t : Nat} {W : World} {cs : Array Value} (h : Blk.At r cs t W) (hc : cs.size = 6) (v0 v1 v2 v3 v4 v5 : Value) : Blk.At r #[v0, v1, v2, v3, v4, v5] t ((((((W.setCell ⟨r, 0, none⟩ v0).setCell ⟨r, 1, none⟩ v1).setCell ⟨r, 2, none⟩ v2).setCell ⟨r, 3, none⟩ v3).setCell ⟨r, 4, none⟩ v4).setCell ⟨r, 5, none⟩ v5) := h.filled [v0, v1, v2, v3, v4, v5] hc
theorem kf6 {r t : Nat} {W : World} {cs : Array Value} (h : Blk.At r cs t W) (v0 v1 v2 v3 v4 v5 : Value) : Kf [t] W ((((((W.setCell ⟨r, 0, none⟩ v0).setCell ⟨r, 1, none⟩ v1).setCell ⟨r, 2, none⟩ v2).setCell ⟨r, 3, none⟩ v3).setCell ⟨r, 4, none⟩ v4).setCell ⟨r, 5, none⟩ v5) :=
  (((((Kf.setCell h (by simp) v0).trans (Kf.setCell (h.set 0 v0) (by simp) v1)).trans (Kf.setCell ((h.set 0 v0).set 1 v1) (by simp) v2)).trans (Kf.setCell (((h.set 0 v0).set 1 v1).set 2 v2) (by simp) v3)).trans (Kf.setCell ((((h.set 0 v0).set 1 v1).set 2 v2).set 3 v3) (by simp) v4)).trans (Kf.setCell (((((h.set 0 v0).set 1 v1).set 2 v2).set 3 v3).set 4 v4) (by simp) v5)
theorem below6 {B r : Nat} {w W : World} (h : Below B w W) (hr : B ≤ r) (v0 v1 v2 v3 v4 v5 : Value) : Below B w ((((((W.setCell ⟨r, 0, none⟩ v0).setCell ⟨r, 1, none⟩ v1).setCell ⟨r, 2, none⟩ v2).setCell ⟨r, 3, none⟩ v3).setCell ⟨r, 4, none⟩ v4).setCell ⟨r, 5, none⟩ v5) := Blk.below_fill hr [v0, v1, v2, v3, v4, v5] 0 W h
/-- The result's own block, as yet empty. -/
def Zq (r : Nat) (w : World) : Prop := Blk.At r #[.string ⟨#[]⟩, .string ⟨#[]⟩, .slice none 0 0, .slice none 0 0, .string ⟨#[]⟩, .slice none 0 0] 26 w
theorem Zq.kf {r : Nat} {ts : List Nat} {w w' : World} (h : Zq r w) (hk : Kf ts w w') (ht : 26 ∉ ts) : Zq r w' := hk.at h ht
/-- What is known within the loop. -/
structure LP (F : Option (List S67)) (k : Nat) (bb : Bool) (s : ByteArray) (fs : List S67) : Prop where
  yes : bb = true → fieldsR k s fs = F
  no : bb = false → F = none
  le : s.size ≤ k
  sum : bb = true → fs.length + s.size ≤ 200000
  small : bb = true → ∀ f ∈ fs, f.f1.size ≤ 1000000000
theorem LP.len {F : Option (List S67)} {k : Nat} {s : ByteArray} {fs : List S67} (h : LP F k true s fs) : fs.length ≤ 1000000 ∧ s.size ≤ 1000000000 := by
  have := h.sum rfl
  omega
theorem LP.step {F : Option (List S67)} {k : Nat} {s : ByteArray} {fs : List S67} (h : LP F (k + 1) true s fs) (hs : s.size ≠ 0) {b : Bool} {fs' : List S67} (hy : b = true → ∃ f, fieldL (cutB s crlf).1 = some f ∧ fs' = fs ++ [f]) (hn : b = false → fieldL (cutB s crlf).1 = none) : LP F k b (cutB s crlf).2.1 fs' := by
  have hless := cutB_less hs
  have h1 := h.le
  have h2 := h.sum rfl
  cases b with
  | true =>
    obtain ⟨f, hf, rfl⟩ := hy rfl
    refine ⟨fun _ => ?_, fun e => Bool.noConfusion e, by omega, fun _ => by rw [List.length_append, List.length_singleton]; omega, fun _ => ?_⟩
    · rw [← h.yes rfl, fieldsR_some hs hf]
    · intro x hx
      rcases List.mem_append.1 hx with hx | hx
      · exact h.small rfl x hx
      · rw [List.mem_singleton.1 hx]
        have := fieldL_size hf
        have := (cutB_le s crlf).1
        omega
  | false =>
    refine ⟨fun e => Bool.noConfusion e, fun _ => ?_, by omega, fun e => Bool.noConfusion e, fun e => Bool.noConfusion e⟩
    rw [← h.yes rfl, fieldsR_none hs (hn rfl)]
theorem firstL_size {l : List ByteArray} {m t : ByteArray} (h : firstL l = some (m, t)) : t.size ≤ 4096 := by
  unfold firstL at h
  split at h
  · split at h
    · rename_i h1
      obtain ⟨rfl, rfl⟩ := Prod.mk.inj (Option.some.inj h)
      exact h1.2.2.1
    · cases h
  · cases h
theorem tailR1 {m t : ByteArray} {fs : List S67} {bd : ByteArray} (h : bodyF fs bd.size ≠ 0) : tailR m t fs bd = (bodyF fs bd.size, Rq0) := if_pos h
theorem tailR2 {m t : ByteArray} {fs : List S67} {bd : ByteArray} (h : bodyF fs bd.size = 0) (h2 : (pairsF t bd fs).2.2 ≠ 0) : tailR m t fs bd = ((pairsF t bd fs).2.2, Rq0) := by
  unfold tailR
  rw [if_neg (fun k => k h), if_pos h2]
theorem tailR3 {m t : ByteArray} {fs : List S67} {bd : ByteArray} (h : bodyF fs bd.size = 0) (h2 : (pairsF t bd fs).2.2 = 0) : tailR m t fs bd = (0, ⟨m, (cutB t qmark).1, (pairsF t bd fs).1, fs, bd, (pairsF t bd fs).2.1⟩) := by
  unfold tailR
  rw [if_neg (fun k => k h), if_neg (fun k => k h2)]
theorem restR_size (b : ByteArray) (n : Nat) : (restR b n).size ≤ b.size := by
  unfold restR
  rw [ByteArray.size_extract]
  omega
theorem emp_eq (s : ByteArray) : s.toList.isEmpty = decide (s.size = 0) := by
  rw [Lib.toList_data, ← data_len]
  cases s.data.toList <;> simp
theorem cut_room {b : ByteArray} (h : (cutH b).2.2 = true) : (cutH b).1.size + 4 ≤ b.size := by
  unfold cutH cutB Lib.cut at h ⊢
  split at h
  · rename_i h0
    rw [if_pos h0]
    have h1 := Lib.index_room _ _ h0
    have h2 : crlf2.data.toList.length = 4 := rfl
    have h3 := data_len (b.extract 0 (min b.size 8192))
    rw [ByteArray.size_extract] at h3
    rw [h2] at h1
    show (List.take _ _).toArray.size + 4 ≤ _
    rw [List.size_toArray, List.length_take]
    omega
  · cases h
theorem cutH_size (b : ByteArray) : (cutH b).1.size ≤ 8192 := by
  have := (cutB_le (b.extract 0 (min b.size 8192)) crlf2).1
  rw [ByteArray.size_extract] at this
  unfold cutH
  omega
set_option maxHeartbeats 16000000 in
theorem p_ParseR.calls {w : World} (hT : Tabs w) (b : ByteArray) (hb : b.size ≤ 100000) :
    Calls Tryz.prog 6 #[.string b] w (ParsePost (parseR b) w) := by
  have hct := fun (W : World) (hT : Tabs W) => p_Cut.calls hT (b.extract 0 (min b.size 8192)) crlf2 (by rw [ByteArray.size_extract]; omega)
  have hsz := cutH_size b
  have hroom := @cut_room b
  have hpr : parseR b = if (cutH b).2.2 = true then headR (cutH b).1 (restR b ((cutH b).1.size + 4)) else if b.size > 8192 then (5, Rq0) else (4, Rq0) := rfl
  change ∀ (W : World), Tabs W → Calls Tryz.prog 23 #[.string (b.extract 0 (min b.size 8192)), .string crlf2] W fun e w' => e = .returned (.tuple #[.string (cutH b).1, .string (cutH b).2.1, .bool (cutH b).2.2]) ∧ Below W.heap.size W w' at hct
  generalize parseR b = pr at hpr ⊢
  generalize cutH b = ch at hct hsz hroom hpr
  obtain ⟨hd, r0, ok⟩ := ch
  simp only at hct hsz hroom hpr
  unfold crlf2 at hct
  obtain ⟨W1, hW1⟩ : ∃ W, W = w.alloc (.cells #[.string ⟨#[]⟩, .string ⟨#[]⟩, .slice none 0 0, .slice none 0 0, .string ⟨#[]⟩, .slice none 0 0] 26) := ⟨_, rfl⟩
  have HB1 := Aside0.mk (show Below w.heap.size w W1 from hW1 ▸ below_alloc (Below.refl _ _) _)
  have HZ1 := Aside0.mk (show Zq w.heap.size W1 from hW1 ▸ Blk.At.new w _ _)
  have HT := Aside0.mk hT
  replace hct := hct W1 (HT.out.below HB1.out)
  have HPR := Aside0.mk hpr
  have HSZ := Aside0.mk hsz
  have HRM := Aside0.mk hroom
  have HBS := Aside0.mk hb
  replace hW1 := hW1.symm
  clear hT hb hsz hroom hpr
  by_cases h8 : b.size ≤ 8192
  · rw [show b.extract 0 (min b.size 8192) = b from by rw [Nat.min_eq_left h8]; exact ByteArray.extract_zero_size] at hct
    have h8' : (b.size : Int) ≤ 8192 := by omega
    have h8'' : decide ((b.size : Int) > 8192) = false := decide_eq_false (by omega)
    have HPR4 := Aside0.mk (show ok = false → pr = (4, Rq0) from fun h => by rw [HPR.out, h]; simp; omega)
    clear h8
    go_enter Tryz.func6, Tryz.ntmps6
    go_wp2_with fail
    refine hct.mono ?_
    rintro e w1 ⟨rfl, hb_⟩
    have HB2 := Aside0.mk (below_step HB1.out hb_)
    have HZ2 := Aside0.mk (HZ1.out.kf (Kf.of_below (ts := []) hb_) (by simp))
    clear hb_ hct HB1 HZ1
    cases ok with
    | false =>
      have y0 : w1.cell? ⟨w.heap.size, 0, none⟩ = some (.string ⟨#[]⟩) := Blk.At.cell HZ2.out 0
      have y1 : w1.cell? ⟨w.heap.size, 1, none⟩ = some (.string ⟨#[]⟩) := Blk.At.cell HZ2.out 1
      have y2 : w1.cell? ⟨w.heap.size, 2, none⟩ = some (.slice none 0 0) := Blk.At.cell HZ2.out 2
      have y3 : w1.cell? ⟨w.heap.size, 3, none⟩ = some (.slice none 0 0) := Blk.At.cell HZ2.out 3
      have y4 : w1.cell? ⟨w.heap.size, 4, none⟩ = some (.string ⟨#[]⟩) := Blk.At.cell HZ2.out 4
      have y5 : w1.cell? ⟨w.heap.size, 5, none⟩ = some (.slice none 0 0) := Blk.At.cell HZ2.out 5
      have z0 := Blk.At.frozen HZ2.out 0
      have z1 := Blk.At.frozen HZ2.out 1
      have z2 := Blk.At.frozen HZ2.out 2
      have z3 := Blk.At.frozen HZ2.out 3
      have z4 := Blk.At.frozen HZ2.out 4
      have z5 := Blk.At.frozen HZ2.out 5
      go_wp2_with fail
      refine bodyPost_ret (results_row2 (ty := 26) rfl rfl (run_loadVar_row _ _ 26 26 _ _ _ (at6 HZ2.out rfl _ _ _ _ _ _) Tryz.underlying26 rfl (by kernel_rfl))) rfl ?_
      obtain rfl : pr = (4, Rq0) := HPR4.out (by first | rfl | trivial)
      exact ParsePost.no (below6 HB2.out (Nat.le_refl _) _ _ _ _ _ _)
    | true =>
      have HRM' := Aside0.mk (HRM.out (by first | rfl | trivial))
      have HPH := Aside0.mk (show pr = headR hd (restR b (hd.size + 4)) from HPR.out.trans (if_pos rfl))
      obtain ⟨s0, hs0⟩ : ∃ s, s = hd ++ ⟨#[13, 10]⟩ := ⟨_, rfl⟩
      have hs0z : s0.size ≤ 8194 := by rw [hs0, ByteArray.size_append]; exact Nat.add_le_add_right HSZ.out 2
      obtain ⟨w2, hw2⟩ : ∃ W, W = w1.alloc (.cells #[.string s0, .string ⟨#[]⟩, .string ⟨#[]⟩, .slice none 0 0, .slice none 0 0, .string ⟨#[]⟩, .slice none 0 0, .string ⟨#[]⟩] 62) := ⟨_, rfl⟩
      have H2 := Aside0.mk (show Rd w w1.heap.size s0 ⟨#[]⟩ ⟨#[]⟩ (.slice none 0 0) (.slice none 0 0) ⟨#[]⟩ (.slice none 0 0) ⟨#[]⟩ w2 from ⟨HT.out, hw2 ▸ below_alloc HB2.out _, HB2.out.size, hw2 ▸ Blk.At.new w1 _ _⟩)
      have HZ3 := Aside0.mk (show Zq w.heap.size w2 from hw2 ▸ Blk.At.alloc HZ2.out _)
      have hfi := r_first.calls H2.out (by omega)
      have HF0 := Aside0.mk (show headR hd (restR b (hd.size + 4)) = match firstL (lsB (cutB s0 crlf).1) with | none => (3, Rq0) | some (m, t) => match fieldsR (cutB s0 crlf).2.1.size (cutB s0 crlf).2.1 [] with | none => (3, Rq0) | some fs => tailR m t fs (restR b (hd.size + 4)) from by rw [hs0]; rfl)
      have HS0 := Aside0.mk (Nat.le_trans (cutB_le s0 crlf).2 hs0z)
      replace hs0 := hs0.symm
      replace hw2 := hw2.symm
      clear HPR HPR4 HRM hs0z HZ2
      generalize cutB s0 crlf = c0 at hfi HF0 HS0
      generalize hg : w1.heap.size = g at hw2 H2 hfi
      replace hg := hg
      have hs1 := HSZ.out
      go_wp2_with fail
      clear hs1
      refine hfi.mono ?_
      rintro e w3 ⟨b3, s3, m3, t3, rfl, h3, k3, hy, hn⟩
      have H3 := Aside0.mk h3
      have HZ4 := Aside0.mk (HZ3.out.kf k3 (by simp))
      obtain ⟨F, hF, hp0, hp1⟩ : ∃ F : Option (List S67), LP F s3.size b3 s3 [] ∧ (F = none → pr = (3, Rq0)) ∧ (∀ fs, F = some fs → pr = tailR m3 t3 fs (restR b (hd.size + 4))) := by
        cases b3 with
        | false => exact ⟨none, ⟨fun e => Bool.noConfusion e, fun _ => rfl, Nat.le_refl _, fun e => Bool.noConfusion e, fun e => Bool.noConfusion e⟩, fun _ => by rw [HPH.out, HF0.out, hn rfl], fun fs e => by cases e⟩
        | true =>
          obtain ⟨rfl, hfl⟩ := hy rfl
          refine ⟨fieldsR c0.2.1.size c0.2.1 [], ⟨fun _ => rfl, fun e => Bool.noConfusion e, Nat.le_refl _, fun _ => by have := HS0.out; simp; omega, fun _ f hf => by simp at hf⟩, fun e => ?_, fun fs e => ?_⟩
          · rw [HPH.out, HF0.out, hfl]; simp only [e]
          · rw [HPH.out, HF0.out, hfl]; simp only [e]
      have HT3 := Aside0.mk (show F ≠ none → t3.size ≤ 4096 from fun hne => by
        cases b3 with
        | false => exact absurd (hF.no rfl) hne
        | true => exact firstL_size (hy rfl).2)
      have HLP := Aside0.mk hF
      have HP0 := Aside0.mk hp0
      have HP1 := Aside0.mk hp1
      obtain ⟨K0, hK0⟩ : ∃ K, K = s3.size := ⟨_, rfl⟩
      rw [← hK0] at HLP
      clear h3 k3 hy hn hF hp0 hp1 hfi HF0 HPH hK0 H2 HZ3
      go_wp2_with fail
      go_loopg [6] K0 (fun kq v6 wr => ∃ (bb : Bool) (s' : ByteArray) (A : Option Addr) (c : Nat) (fs' : List S67), v6 = .bool bb ∧ Aside0 (Rd w g s' m3 ⟨#[]⟩ (.slice none 0 0) (.slice A fs'.length c) ⟨#[]⟩ (.slice none 0 0) t3 wr) ∧ Aside0 (Kd.R k67 67 wr w.heap.size (fun _ => True) (.slice A fs'.length c) fs') ∧ Aside0 (Zq w.heap.size wr) ∧ Aside0 (LP F kq bb s' fs'))
      case atStart => exact ⟨b3, s3, none, 0, [], rfl, H3, ⟨Kd.R_nil _ _ _ _ _⟩, HZ4, HLP⟩
      case round =>
        clear H3 HZ4 HLP
        obtain ⟨bb, s', A, c, fs', rfl, HR, HRF, HZ, HL⟩ := hrel
        cases bb with
        | false =>
          have y0 : wr.cell? ⟨w.heap.size, 0, none⟩ = some (.string ⟨#[]⟩) := Blk.At.cell HZ.out 0
          have y1 : wr.cell? ⟨w.heap.size, 1, none⟩ = some (.string ⟨#[]⟩) := Blk.At.cell HZ.out 1
          have y2 : wr.cell? ⟨w.heap.size, 2, none⟩ = some (.slice none 0 0) := Blk.At.cell HZ.out 2
          have y3 : wr.cell? ⟨w.heap.size, 3, none⟩ = some (.slice none 0 0) := Blk.At.cell HZ.out 3
          have y4 : wr.cell? ⟨w.heap.size, 4, none⟩ = some (.string ⟨#[]⟩) := Blk.At.cell HZ.out 4
          have y5 : wr.cell? ⟨w.heap.size, 5, none⟩ = some (.slice none 0 0) := Blk.At.cell HZ.out 5
          have z0 := Blk.At.frozen HZ.out 0
          have z1 := Blk.At.frozen HZ.out 1
          have z2 := Blk.At.frozen HZ.out 2
          have z3 := Blk.At.frozen HZ.out 3
          have z4 := Blk.At.frozen HZ.out 4
          have z5 := Blk.At.frozen HZ.out 5
          go_wp2_with fail
          refine bodyPost_ret (results_row2 (ty := 26) rfl rfl (run_loadVar_row _ _ 26 26 _ _ _ (at6 HZ.out rfl _ _ _ _ _ _) Tryz.underlying26 rfl (by kernel_rfl))) rfl ?_
          obtain rfl : pr = (3, Rq0) := HP0.out (HL.out.no rfl)
          exact ParsePost.no (below6 HR.out.below (Nat.le_refl _) _ _ _ _ _ _)
        | true =>
          have c0 : wr.cell? ⟨g, 0, none⟩ = some (.string s') := HR.out.at_.cell 0
          by_cases hs : s'.size = 0
          · have he : s'.toList.isEmpty = true := by rw [emp_eq, hs]; rfl
            have HFF := Aside0.mk (show F = some fs' from (HL.out.yes rfl).symm.trans (fieldsR_end hs))
            have HLL := Aside0.mk HL.out.len.1
            have HSM := Aside0.mk (HL.out.small rfl)
            have f0 := HR.out.at_.frozen 0
            have hs1 := HSZ.out
            have hrm := HRM'.out
            clear hs HL
            obtain ⟨bd, hbd⟩ : ∃ x, x = b.extract (hd.size + 4) b.size := ⟨_, rfl⟩
            have HP1' := Aside0.mk (show pr = tailR m3 t3 fs' bd from (HP1.out fs' HFF.out).trans (by rw [hbd]; rfl))
            have HBZ := Aside0.mk (show bd.size ≤ 100000 from by rw [hbd]; exact Nat.le_trans (restR_size b (hd.size + 4)) HBS.out)
            have HTZ := Aside0.mk (HT3.out (by rw [HFF.out]; simp))
            replace hbd := hbd.symm
            obtain ⟨w6, hw6⟩ : ∃ W, W = wr.setCell ⟨g, 0, none⟩ (.string bd) := ⟨_, rfl⟩
            have k6 := Kf.setCell (ts := [62]) (j := 0) HR.out.at_ (by simp) (.string bd)
            have H6 := Aside0.mk (HR.out.set_s bd)
            rw [← hw6] at k6 H6
            have HR6 := Aside0.mk (k6.R HRF.out (by intro q hq; rw [List.mem_singleton.1 hq]; decide))
            have HZ6 := Aside0.mk (HZ.out.kf k6 (by simp))
            have hbo := r_body.calls H6.out (Kd.R_reads' HR6.out).2.2 HLL.out HSM.out
            replace hw6 := hw6.symm
            clear k6 HR HRF HZ HP0 HP1 HT3
            go_wp2_with fail
            clear c0 f0 he hs1 hrm hw6 hbd
            refine hbo.mono ?_
            rintro e w7 ⟨bd', rfl, h7, k7, hb0⟩
            have H7 := Aside0.mk h7
            have HZ7 := Aside0.mk (HZ6.out.kf k7 (by simp))
            have HR7 := Aside0.mk (k7.R HR6.out (by intro q hq; rw [List.mem_singleton.1 hq]; decide))
            have HB0' := Aside0.mk hb0
            have HTA := Aside0.mk (tailR1 (m := m3) (t := t3) (fs := fs') (bd := bd))
            have HTB := Aside0.mk (tailR2 (m := m3) (t := t3) (fs := fs') (bd := bd))
            have HTC := Aside0.mk (tailR3 (m := m3) (t := t3) (fs := fs') (bd := bd))
            clear h7 k7 hb0 hbo H6 HR6 HZ6
            generalize bodyF fs' bd.size = er at HB0' HTA HTB HTC
            by_cases hz : er = 0
            · subst hz
              obtain rfl := HB0'.out rfl
              have hpa := r_pairs.calls H7.out HR7.out HLL.out HSM.out (Nat.le_trans HBZ.out (by decide)) (Nat.le_trans HTZ.out (by decide))
              generalize pairsF t3 bd' fs' = pf at hpa HTB HTC
              obtain ⟨pq, pv, pe⟩ := pf
              simp only at HTB HTC
              go_wp2_with fail
              refine hpa.mono ?_
              rintro e w8 ⟨Aq, cq, Am, cm, rfl, h8, hq8, hm8, k8⟩
              have H8 := Aside0.mk h8
              have HZ8 := Aside0.mk (HZ7.out.kf k8 (by simp))
              have HR8 := Aside0.mk (k8.R HR7.out (by intro q hq; rw [List.mem_singleton.1 hq]; decide))
              have HQ8 := Aside0.mk hq8
              have HM8 := Aside0.mk hm8
              clear h8 hq8 hm8 k8 hpa H7 HR7 HZ7
              by_cases hz2 : pe = 0
              · subst hz2
                have x1 : w8.cell? ⟨g, 1, none⟩ = some (.string m3) := H8.out.at_.cell 1
                have x2 : w8.cell? ⟨g, 2, none⟩ = some (.string (cutB t3 qmark).1) := H8.out.at_.cell 2
                have x3 : w8.cell? ⟨g, 3, none⟩ = some (.slice Aq pq.length cq) := H8.out.at_.cell 3
                have x4 : w8.cell? ⟨g, 4, none⟩ = some (.slice A fs'.length c) := H8.out.at_.cell 4
                have x5 : w8.cell? ⟨g, 5, none⟩ = some (.string bd') := H8.out.at_.cell 5
                have x6 : w8.cell? ⟨g, 6, none⟩ = some (.slice Am pv.length cm) := H8.out.at_.cell 6
                have HKR := Aside0.mk (kf6 HZ8.out (.string m3) (.string (cutB t3 qmark).1) (.slice Aq pq.length cq) (.slice A fs'.length c) (.string bd') (.slice Am pv.length cm))
                generalize (cutB t3 qmark).1 = pth at x2 HTC HKR
                have y0 : w8.cell? ⟨w.heap.size, 0, none⟩ = some (.string ⟨#[]⟩) := Blk.At.cell HZ8.out 0
                have y1 : w8.cell? ⟨w.heap.size, 1, none⟩ = some (.string ⟨#[]⟩) := Blk.At.cell HZ8.out 1
                have y2 : w8.cell? ⟨w.heap.size, 2, none⟩ = some (.slice none 0 0) := Blk.At.cell HZ8.out 2
                have y3 : w8.cell? ⟨w.heap.size, 3, none⟩ = some (.slice none 0 0) := Blk.At.cell HZ8.out 3
                have y4 : w8.cell? ⟨w.heap.size, 4, none⟩ = some (.string ⟨#[]⟩) := Blk.At.cell HZ8.out 4
                have y5 : w8.cell? ⟨w.heap.size, 5, none⟩ = some (.slice none 0 0) := Blk.At.cell HZ8.out 5
                have z0 := Blk.At.frozen HZ8.out 0
                have z1 := Blk.At.frozen HZ8.out 1
                have z2 := Blk.At.frozen HZ8.out 2
                have z3 := Blk.At.frozen HZ8.out 3
                have z4 := Blk.At.frozen HZ8.out 4
                have z5 := Blk.At.frozen HZ8.out 5
                go_wp2_with fail
                clear x1 x2 x3 x4 x5 x6
                refine bodyPost_ret (results_row2 (ty := 26) rfl rfl (run_loadVar_row _ _ 26 26 _ _ _ (at6 HZ8.out rfl _ _ _ _ _ _) Tryz.underlying26 rfl (by kernel_rfl))) rfl ?_
                obtain rfl : pr = (0, ⟨m3, pth, pq, fs', bd', pv⟩) := HP1'.out.trans (HTC.out (by first | rfl | trivial) (by first | rfl | trivial))
                exact ⟨Aq, cq, A, c, Am, cm, rfl, HKR.out.R HQ8.out (by intro q hq; rw [List.mem_singleton.1 hq]; decide), HKR.out.R HR8.out (by intro q hq; rw [List.mem_singleton.1 hq]; decide), HKR.out.R HM8.out (by intro q hq; rw [List.mem_singleton.1 hq]; decide), below6 H8.out.below (Nat.le_refl _) _ _ _ _ _ _⟩
              · have hz' : (pe == 0) = false := beq_eq_false_iff_ne.2 hz2
                have hz'' : (pe != 0) = true := by rw [bne, hz']; rfl
                have HZ2 := Aside0.mk hz2
                clear hz2
                have y0 : w8.cell? ⟨w.heap.size, 0, none⟩ = some (.string ⟨#[]⟩) := Blk.At.cell HZ8.out 0
                have y1 : w8.cell? ⟨w.heap.size, 1, none⟩ = some (.string ⟨#[]⟩) := Blk.At.cell HZ8.out 1
                have y2 : w8.cell? ⟨w.heap.size, 2, none⟩ = some (.slice none 0 0) := Blk.At.cell HZ8.out 2
                have y3 : w8.cell? ⟨w.heap.size, 3, none⟩ = some (.slice none 0 0) := Blk.At.cell HZ8.out 3
                have y4 : w8.cell? ⟨w.heap.size, 4, none⟩ = some (.string ⟨#[]⟩) := Blk.At.cell HZ8.out 4
                have y5 : w8.cell? ⟨w.heap.size, 5, none⟩ = some (.slice none 0 0) := Blk.At.cell HZ8.out 5
                have z0 := Blk.At.frozen HZ8.out 0
                have z1 := Blk.At.frozen HZ8.out 1
                have z2 := Blk.At.frozen HZ8.out 2
                have z3 := Blk.At.frozen HZ8.out 3
                have z4 := Blk.At.frozen HZ8.out 4
                have z5 := Blk.At.frozen HZ8.out 5
                go_wp2_with fail
                refine bodyPost_ret (results_row2 (ty := 26) rfl rfl (run_loadVar_row _ _ 26 26 _ _ _ (at6 HZ8.out rfl _ _ _ _ _ _) Tryz.underlying26 rfl (by kernel_rfl))) rfl ?_
                obtain rfl : pr = (pe, Rq0) := HP1'.out.trans (HTB.out (by first | rfl | trivial) HZ2.out)
                exact ParsePost.no (below6 H8.out.below (Nat.le_refl _) _ _ _ _ _ _)
            · have hz' : (er == 0) = false := beq_eq_false_iff_ne.2 hz
              have hz'' : (er != 0) = true := by rw [bne, hz']; rfl
              have HZ2 := Aside0.mk hz
              clear hz
              have y0 : w7.cell? ⟨w.heap.size, 0, none⟩ = some (.string ⟨#[]⟩) := Blk.At.cell HZ7.out 0
              have y1 : w7.cell? ⟨w.heap.size, 1, none⟩ = some (.string ⟨#[]⟩) := Blk.At.cell HZ7.out 1
              have y2 : w7.cell? ⟨w.heap.size, 2, none⟩ = some (.slice none 0 0) := Blk.At.cell HZ7.out 2
              have y3 : w7.cell? ⟨w.heap.size, 3, none⟩ = some (.slice none 0 0) := Blk.At.cell HZ7.out 3
              have y4 : w7.cell? ⟨w.heap.size, 4, none⟩ = some (.string ⟨#[]⟩) := Blk.At.cell HZ7.out 4
              have y5 : w7.cell? ⟨w.heap.size, 5, none⟩ = some (.slice none 0 0) := Blk.At.cell HZ7.out 5
              have z0 := Blk.At.frozen HZ7.out 0
              have z1 := Blk.At.frozen HZ7.out 1
              have z2 := Blk.At.frozen HZ7.out 2
              have z3 := Blk.At.frozen HZ7.out 3
              have z4 := Blk.At.frozen HZ7.out 4
              have z5 := Blk.At.frozen HZ7.out 5
              go_wp2_with fail
              refine bodyPost_ret (results_row2 (ty := 26) rfl rfl (run_loadVar_row _ _ 26 26 _ _ _ (at6 HZ7.out rfl _ _ _ _ _ _) Tryz.underlying26 rfl (by kernel_rfl))) rfl ?_
              obtain rfl : pr = (er, Rq0) := HP1'.out.trans (HTA.out HZ2.out)
              exact ParsePost.no (below6 H7.out.below (Nat.le_refl _) _ _ _ _ _ _)
          · have he : s'.toList.isEmpty = false := by rw [emp_eq]; exact decide_eq_false hs
            cases gk with
            | zero => exact absurd HL.out.le (by omega)
            | succ k1 =>
              have hfd := r_field.calls HR.out HRF.out HL.out.len.2 HL.out.len.1
              have HHS := Aside0.mk hs
              clear hs
              go_wp2_with fail
              refine hfd.mono ?_
              rintro e w5 ⟨b5, vf5, fs5, rfl, h5, hR5, k5, hy5, hn5⟩
              obtain ⟨A5, c5, rfl⟩ := Kd.R_slice hR5
              have H5 := Aside0.mk h5
              have HR5 := Aside0.mk hR5
              have HZ5 := Aside0.mk (HZ.out.kf k5 (by simp))
              have HL5 := Aside0.mk (HL.out.step HHS.out hy5 hn5)
              clear h5 hR5 k5 hy5 hn5 hfd HR HRF HZ HL c0 he
              go_wp2_with fail
              go_roundg k1
              case measure => omega
              case rel => exact ⟨b5, _, A5, c5, fs5, rfl, H5, HR5, HZ5, HL5⟩
  · rw [show b.extract 0 (min b.size 8192) = b.extract 0 8192 from by rw [Nat.min_eq_right (by omega)]] at hct
    have h8' : 8192 < (b.size : Int) := by omega
    have h8'' : decide ((b.size : Int) > 8192) = true := decide_eq_true (by omega)
    have HPR4 := Aside0.mk (show ok = false → pr = (5, Rq0) from fun h => by rw [HPR.out, h]; simp; omega)
    clear h8
    go_enter Tryz.func6, Tryz.ntmps6
    go_wp2_with fail
    refine hct.mono ?_
    rintro e w1 ⟨rfl, hb_⟩
    have HB2 := Aside0.mk (below_step HB1.out hb_)
    have HZ2 := Aside0.mk (HZ1.out.kf (Kf.of_below (ts := []) hb_) (by simp))
    clear hb_ hct HB1 HZ1
    cases ok with
    | false =>
      have y0 : w1.cell? ⟨w.heap.size, 0, none⟩ = some (.string ⟨#[]⟩) := Blk.At.cell HZ2.out 0
      have y1 : w1.cell? ⟨w.heap.size, 1, none⟩ = some (.string ⟨#[]⟩) := Blk.At.cell HZ2.out 1
      have y2 : w1.cell? ⟨w.heap.size, 2, none⟩ = some (.slice none 0 0) := Blk.At.cell HZ2.out 2
      have y3 : w1.cell? ⟨w.heap.size, 3, none⟩ = some (.slice none 0 0) := Blk.At.cell HZ2.out 3
      have y4 : w1.cell? ⟨w.heap.size, 4, none⟩ = some (.string ⟨#[]⟩) := Blk.At.cell HZ2.out 4
      have y5 : w1.cell? ⟨w.heap.size, 5, none⟩ = some (.slice none 0 0) := Blk.At.cell HZ2.out 5
      have z0 := Blk.At.frozen HZ2.out 0
      have z1 := Blk.At.frozen HZ2.out 1
      have z2 := Blk.At.frozen HZ2.out 2
      have z3 := Blk.At.frozen HZ2.out 3
      have z4 := Blk.At.frozen HZ2.out 4
      have z5 := Blk.At.frozen HZ2.out 5
      go_wp2_with fail
      refine bodyPost_ret (results_row2 (ty := 26) rfl rfl (run_loadVar_row _ _ 26 26 _ _ _ (at6 HZ2.out rfl _ _ _ _ _ _) Tryz.underlying26 rfl (by kernel_rfl))) rfl ?_
      obtain rfl : pr = (5, Rq0) := HPR4.out (by first | rfl | trivial)
      exact ParsePost.no (below6 HB2.out (Nat.le_refl _) _ _ _ _ _ _)
    | true =>
      have HRM' := Aside0.mk (HRM.out (by first | rfl | trivial))
      have HPH := Aside0.mk (show pr = headR hd (restR b (hd.size + 4)) from HPR.out.trans (if_pos rfl))
      obtain ⟨s0, hs0⟩ : ∃ s, s = hd ++ ⟨#[13, 10]⟩ := ⟨_, rfl⟩
      have hs0z : s0.size ≤ 8194 := by rw [hs0, ByteArray.size_append]; exact Nat.add_le_add_right HSZ.out 2
      obtain ⟨w2, hw2⟩ : ∃ W, W = w1.alloc (.cells #[.string s0, .string ⟨#[]⟩, .string ⟨#[]⟩, .slice none 0 0, .slice none 0 0, .string ⟨#[]⟩, .slice none 0 0, .string ⟨#[]⟩] 62) := ⟨_, rfl⟩
      have H2 := Aside0.mk (show Rd w w1.heap.size s0 ⟨#[]⟩ ⟨#[]⟩ (.slice none 0 0) (.slice none 0 0) ⟨#[]⟩ (.slice none 0 0) ⟨#[]⟩ w2 from ⟨HT.out, hw2 ▸ below_alloc HB2.out _, HB2.out.size, hw2 ▸ Blk.At.new w1 _ _⟩)
      have HZ3 := Aside0.mk (show Zq w.heap.size w2 from hw2 ▸ Blk.At.alloc HZ2.out _)
      have hfi := r_first.calls H2.out (by omega)
      have HF0 := Aside0.mk (show headR hd (restR b (hd.size + 4)) = match firstL (lsB (cutB s0 crlf).1) with | none => (3, Rq0) | some (m, t) => match fieldsR (cutB s0 crlf).2.1.size (cutB s0 crlf).2.1 [] with | none => (3, Rq0) | some fs => tailR m t fs (restR b (hd.size + 4)) from by rw [hs0]; rfl)
      have HS0 := Aside0.mk (Nat.le_trans (cutB_le s0 crlf).2 hs0z)
      replace hs0 := hs0.symm
      replace hw2 := hw2.symm
      clear HPR HPR4 HRM hs0z HZ2
      generalize cutB s0 crlf = c0 at hfi HF0 HS0
      generalize hg : w1.heap.size = g at hw2 H2 hfi
      replace hg := hg
      have hs1 := HSZ.out
      go_wp2_with fail
      clear hs1
      refine hfi.mono ?_
      rintro e w3 ⟨b3, s3, m3, t3, rfl, h3, k3, hy, hn⟩
      have H3 := Aside0.mk h3
      have HZ4 := Aside0.mk (HZ3.out.kf k3 (by simp))
      obtain ⟨F, hF, hp0, hp1⟩ : ∃ F : Option (List S67), LP F s3.size b3 s3 [] ∧ (F = none → pr = (3, Rq0)) ∧ (∀ fs, F = some fs → pr = tailR m3 t3 fs (restR b (hd.size + 4))) := by
        cases b3 with
        | false => exact ⟨none, ⟨fun e => Bool.noConfusion e, fun _ => rfl, Nat.le_refl _, fun e => Bool.noConfusion e, fun e => Bool.noConfusion e⟩, fun _ => by rw [HPH.out, HF0.out, hn rfl], fun fs e => by cases e⟩
        | true =>
          obtain ⟨rfl, hfl⟩ := hy rfl
          refine ⟨fieldsR c0.2.1.size c0.2.1 [], ⟨fun _ => rfl, fun e => Bool.noConfusion e, Nat.le_refl _, fun _ => by have := HS0.out; simp; omega, fun _ f hf => by simp at hf⟩, fun e => ?_, fun fs e => ?_⟩
          · rw [HPH.out, HF0.out, hfl]; simp only [e]
          · rw [HPH.out, HF0.out, hfl]; simp only [e]
      have HT3 := Aside0.mk (show F ≠ none → t3.size ≤ 4096 from fun hne => by
        cases b3 with
        | false => exact absurd (hF.no rfl) hne
        | true => exact firstL_size (hy rfl).2)
      have HLP := Aside0.mk hF
      have HP0 := Aside0.mk hp0
      have HP1 := Aside0.mk hp1
      obtain ⟨K0, hK0⟩ : ∃ K, K = s3.size := ⟨_, rfl⟩
      rw [← hK0] at HLP
      clear h3 k3 hy hn hF hp0 hp1 hfi HF0 HPH hK0 H2 HZ3
      go_wp2_with fail
      go_loopg [6] K0 (fun kq v6 wr => ∃ (bb : Bool) (s' : ByteArray) (A : Option Addr) (c : Nat) (fs' : List S67), v6 = .bool bb ∧ Aside0 (Rd w g s' m3 ⟨#[]⟩ (.slice none 0 0) (.slice A fs'.length c) ⟨#[]⟩ (.slice none 0 0) t3 wr) ∧ Aside0 (Kd.R k67 67 wr w.heap.size (fun _ => True) (.slice A fs'.length c) fs') ∧ Aside0 (Zq w.heap.size wr) ∧ Aside0 (LP F kq bb s' fs'))
      case atStart => exact ⟨b3, s3, none, 0, [], rfl, H3, ⟨Kd.R_nil _ _ _ _ _⟩, HZ4, HLP⟩
      case round =>
        clear H3 HZ4 HLP
        obtain ⟨bb, s', A, c, fs', rfl, HR, HRF, HZ, HL⟩ := hrel
        cases bb with
        | false =>
          have y0 : wr.cell? ⟨w.heap.size, 0, none⟩ = some (.string ⟨#[]⟩) := Blk.At.cell HZ.out 0
          have y1 : wr.cell? ⟨w.heap.size, 1, none⟩ = some (.string ⟨#[]⟩) := Blk.At.cell HZ.out 1
          have y2 : wr.cell? ⟨w.heap.size, 2, none⟩ = some (.slice none 0 0) := Blk.At.cell HZ.out 2
          have y3 : wr.cell? ⟨w.heap.size, 3, none⟩ = some (.slice none 0 0) := Blk.At.cell HZ.out 3
          have y4 : wr.cell? ⟨w.heap.size, 4, none⟩ = some (.string ⟨#[]⟩) := Blk.At.cell HZ.out 4
          have y5 : wr.cell? ⟨w.heap.size, 5, none⟩ = some (.slice none 0 0) := Blk.At.cell HZ.out 5
          have z0 := Blk.At.frozen HZ.out 0
          have z1 := Blk.At.frozen HZ.out 1
          have z2 := Blk.At.frozen HZ.out 2
          have z3 := Blk.At.frozen HZ.out 3
          have z4 := Blk.At.frozen HZ.out 4
          have z5 := Blk.At.frozen HZ.out 5
          go_wp2_with fail
          refine bodyPost_ret (results_row2 (ty := 26) rfl rfl (run_loadVar_row _ _ 26 26 _ _ _ (at6 HZ.out rfl _ _ _ _ _ _) Tryz.underlying26 rfl (by kernel_rfl))) rfl ?_
          obtain rfl : pr = (3, Rq0) := HP0.out (HL.out.no rfl)
          exact ParsePost.no (below6 HR.out.below (Nat.le_refl _) _ _ _ _ _ _)
        | true =>
          have c0 : wr.cell? ⟨g, 0, none⟩ = some (.string s') := HR.out.at_.cell 0
          by_cases hs : s'.size = 0
          · have he : s'.toList.isEmpty = true := by rw [emp_eq, hs]; rfl
            have HFF := Aside0.mk (show F = some fs' from (HL.out.yes rfl).symm.trans (fieldsR_end hs))
            have HLL := Aside0.mk HL.out.len.1
            have HSM := Aside0.mk (HL.out.small rfl)
            have f0 := HR.out.at_.frozen 0
            have hs1 := HSZ.out
            have hrm := HRM'.out
            clear hs HL
            obtain ⟨bd, hbd⟩ : ∃ x, x = b.extract (hd.size + 4) b.size := ⟨_, rfl⟩
            have HP1' := Aside0.mk (show pr = tailR m3 t3 fs' bd from (HP1.out fs' HFF.out).trans (by rw [hbd]; rfl))
            have HBZ := Aside0.mk (show bd.size ≤ 100000 from by rw [hbd]; exact Nat.le_trans (restR_size b (hd.size + 4)) HBS.out)
            have HTZ := Aside0.mk (HT3.out (by rw [HFF.out]; simp))
            replace hbd := hbd.symm
            obtain ⟨w6, hw6⟩ : ∃ W, W = wr.setCell ⟨g, 0, none⟩ (.string bd) := ⟨_, rfl⟩
            have k6 := Kf.setCell (ts := [62]) (j := 0) HR.out.at_ (by simp) (.string bd)
            have H6 := Aside0.mk (HR.out.set_s bd)
            rw [← hw6] at k6 H6
            have HR6 := Aside0.mk (k6.R HRF.out (by intro q hq; rw [List.mem_singleton.1 hq]; decide))
            have HZ6 := Aside0.mk (HZ.out.kf k6 (by simp))
            have hbo := r_body.calls H6.out (Kd.R_reads' HR6.out).2.2 HLL.out HSM.out
            replace hw6 := hw6.symm
            clear k6 HR HRF HZ HP0 HP1 HT3
            go_wp2_with fail
            clear c0 f0 he hs1 hrm hw6 hbd
            refine hbo.mono ?_
            rintro e w7 ⟨bd', rfl, h7, k7, hb0⟩
            have H7 := Aside0.mk h7
            have HZ7 := Aside0.mk (HZ6.out.kf k7 (by simp))
            have HR7 := Aside0.mk (k7.R HR6.out (by intro q hq; rw [List.mem_singleton.1 hq]; decide))
            have HB0' := Aside0.mk hb0
            have HTA := Aside0.mk (tailR1 (m := m3) (t := t3) (fs := fs') (bd := bd))
            have HTB := Aside0.mk (tailR2 (m := m3) (t := t3) (fs := fs') (bd := bd))
            have HTC := Aside0.mk (tailR3 (m := m3) (t := t3) (fs := fs') (bd := bd))
            clear h7 k7 hb0 hbo H6 HR6 HZ6
            generalize bodyF fs' bd.size = er at HB0' HTA HTB HTC
            by_cases hz : er = 0
            · subst hz
              obtain rfl := HB0'.out rfl
              have hpa := r_pairs.calls H7.out HR7.out HLL.out HSM.out (Nat.le_trans HBZ.out (by decide)) (Nat.le_trans HTZ.out (by decide))
              generalize pairsF t3 bd' fs' = pf at hpa HTB HTC
              obtain ⟨pq, pv, pe⟩ := pf
              simp only at HTB HTC
              go_wp2_with fail
              refine hpa.mono ?_
              rintro e w8 ⟨Aq, cq, Am, cm, rfl, h8, hq8, hm8, k8⟩
              have H8 := Aside0.mk h8
              have HZ8 := Aside0.mk (HZ7.out.kf k8 (by simp))
              have HR8 := Aside0.mk (k8.R HR7.out (by intro q hq; rw [List.mem_singleton.1 hq]; decide))
              have HQ8 := Aside0.mk hq8
              have HM8 := Aside0.mk hm8
              clear h8 hq8 hm8 k8 hpa H7 HR7 HZ7
              by_cases hz2 : pe = 0
              · subst hz2
                have x1 : w8.cell? ⟨g, 1, none⟩ = some (.string m3) := H8.out.at_.cell 1
                have x2 : w8.cell? ⟨g, 2, none⟩ = some (.string (cutB t3 qmark).1) := H8.out.at_.cell 2
                have x3 : w8.cell? ⟨g, 3, none⟩ = some (.slice Aq pq.length cq) := H8.out.at_.cell 3
                have x4 : w8.cell? ⟨g, 4, none⟩ = some (.slice A fs'.length c) := H8.out.at_.cell 4
                have x5 : w8.cell? ⟨g, 5, none⟩ = some (.string bd') := H8.out.at_.cell 5
                have x6 : w8.cell? ⟨g, 6, none⟩ = some (.slice Am pv.length cm) := H8.out.at_.cell 6
                have HKR := Aside0.mk (kf6 HZ8.out (.string m3) (.string (cutB t3 qmark).1) (.slice Aq pq.length cq) (.slice A fs'.length c) (.string bd') (.slice Am pv.length cm))
                generalize (cutB t3 qmark).1 = pth at x2 HTC HKR
                have y0 : w8.cell? ⟨w.heap.size, 0, none⟩ = some (.string ⟨#[]⟩) := Blk.At.cell HZ8.out 0
                have y1 : w8.cell? ⟨w.heap.size, 1, none⟩ = some (.string ⟨#[]⟩) := Blk.At.cell HZ8.out 1
                have y2 : w8.cell? ⟨w.heap.size, 2, none⟩ = some (.slice none 0 0) := Blk.At.cell HZ8.out 2
                have y3 : w8.cell? ⟨w.heap.size, 3, none⟩ = some (.slice none 0 0) := Blk.At.cell HZ8.out 3
                have y4 : w8.cell? ⟨w.heap.size, 4, none⟩ = some (.string ⟨#[]⟩) := Blk.At.cell HZ8.out 4
                have y5 : w8.cell? ⟨w.heap.size, 5, none⟩ = some (.slice none 0 0) := Blk.At.cell HZ8.out 5
                have z0 := Blk.At.frozen HZ8.out 0
                have z1 := Blk.At.frozen HZ8.out 1
                have z2 := Blk.At.frozen HZ8.out 2
                have z3 := Blk.At.frozen HZ8.out 3
                have z4 := Blk.At.frozen HZ8.out 4
                have z5 := Blk.At.frozen HZ8.out 5
                go_wp2_with fail
                clear x1 x2 x3 x4 x5 x6
                refine bodyPost_ret (results_row2 (ty := 26) rfl rfl (run_loadVar_row _ _ 26 26 _ _ _ (at6 HZ8.out rfl _ _ _ _ _ _) Tryz.underlying26 rfl (by kernel_rfl))) rfl ?_
                obtain rfl : pr = (0, ⟨m3, pth, pq, fs', bd', pv⟩) := HP1'.out.trans (HTC.out (by first | rfl | trivial) (by first | rfl | trivial))
                exact ⟨Aq, cq, A, c, Am, cm, rfl, HKR.out.R HQ8.out (by intro q hq; rw [List.mem_singleton.1 hq]; decide), HKR.out.R HR8.out (by intro q hq; rw [List.mem_singleton.1 hq]; decide), HKR.out.R HM8.out (by intro q hq; rw [List.mem_singleton.1 hq]; decide), below6 H8.out.below (Nat.le_refl _) _ _ _ _ _ _⟩
              · have hz' : (pe == 0) = false := beq_eq_false_iff_ne.2 hz2
                have hz'' : (pe != 0) = true := by rw [bne, hz']; rfl
                have HZ2 := Aside0.mk hz2
                clear hz2
                have y0 : w8.cell? ⟨w.heap.size, 0, none⟩ = some (.string ⟨#[]⟩) := Blk.At.cell HZ8.out 0
                have y1 : w8.cell? ⟨w.heap.size, 1, none⟩ = some (.string ⟨#[]⟩) := Blk.At.cell HZ8.out 1
                have y2 : w8.cell? ⟨w.heap.size, 2, none⟩ = some (.slice none 0 0) := Blk.At.cell HZ8.out 2
                have y3 : w8.cell? ⟨w.heap.size, 3, none⟩ = some (.slice none 0 0) := Blk.At.cell HZ8.out 3
                have y4 : w8.cell? ⟨w.heap.size, 4, none⟩ = some (.string ⟨#[]⟩) := Blk.At.cell HZ8.out 4
                have y5 : w8.cell? ⟨w.heap.size, 5, none⟩ = some (.slice none 0 0) := Blk.At.cell HZ8.out 5
                have z0 := Blk.At.frozen HZ8.out 0
                have z1 := Blk.At.frozen HZ8.out 1
                have z2 := Blk.At.frozen HZ8.out 2
                have z3 := Blk.At.frozen HZ8.out 3
                have z4 := Blk.At.frozen HZ8.out 4
                have z5 := Blk.At.frozen HZ8.out 5
                go_wp2_with fail
                refine bodyPost_ret (results_row2 (ty := 26) rfl rfl (run_loadVar_row _ _ 26 26 _ _ _ (at6 HZ8.out rfl _ _ _ _ _ _) Tryz.underlying26 rfl (by kernel_rfl))) rfl ?_
                obtain rfl : pr = (pe, Rq0) := HP1'.out.trans (HTB.out (by first | rfl | trivial) HZ2.out)
                exact ParsePost.no (below6 H8.out.below (Nat.le_refl _) _ _ _ _ _ _)
            · have hz' : (er == 0) = false := beq_eq_false_iff_ne.2 hz
              have hz'' : (er != 0) = true := by rw [bne, hz']; rfl
              have HZ2 := Aside0.mk hz
              clear hz
              have y0 : w7.cell? ⟨w.heap.size, 0, none⟩ = some (.string ⟨#[]⟩) := Blk.At.cell HZ7.out 0
              have y1 : w7.cell? ⟨w.heap.size, 1, none⟩ = some (.string ⟨#[]⟩) := Blk.At.cell HZ7.out 1
              have y2 : w7.cell? ⟨w.heap.size, 2, none⟩ = some (.slice none 0 0) := Blk.At.cell HZ7.out 2
              have y3 : w7.cell? ⟨w.heap.size, 3, none⟩ = some (.slice none 0 0) := Blk.At.cell HZ7.out 3
              have y4 : w7.cell? ⟨w.heap.size, 4, none⟩ = some (.string ⟨#[]⟩) := Blk.At.cell HZ7.out 4
              have y5 : w7.cell? ⟨w.heap.size, 5, none⟩ = some (.slice none 0 0) := Blk.At.cell HZ7.out 5
              have z0 := Blk.At.frozen HZ7.out 0
              have z1 := Blk.At.frozen HZ7.out 1
              have z2 := Blk.At.frozen HZ7.out 2
              have z3 := Blk.At.frozen HZ7.out 3
              have z4 := Blk.At.frozen HZ7.out 4
              have z5 := Blk.At.frozen HZ7.out 5
              go_wp2_with fail
              refine bodyPost_ret (results_row2 (ty := 26) rfl rfl (run_loadVar_row _ _ 26 26 _ _ _ (at6 HZ7.out rfl _ _ _ _ _ _) Tryz.underlying26 rfl (by kernel_rfl))) rfl ?_
              obtain rfl : pr = (er, Rq0) := HP1'.out.trans (HTA.out HZ2.out)
              exact ParsePost.no (below6 H7.out.below (Nat.le_refl _) _ _ _ _ _ _)
          · have he : s'.toList.isEmpty = false := by rw [emp_eq]; exact decide_eq_false hs
            cases gk with
            | zero => exact absurd HL.out.le (by omega)
            | succ k1 =>
              have hfd := r_field.calls HR.out HRF.out HL.out.len.2 HL.out.len.1
              have HHS := Aside0.mk hs
              clear hs
              go_wp2_with fail
              refine hfd.mono ?_
              rintro e w5 ⟨b5, vf5, fs5, rfl, h5, hR5, k5, hy5, hn5⟩
              obtain ⟨A5, c5, rfl⟩ := Kd.R_slice hR5
              have H5 := Aside0.mk h5
              have HR5 := Aside0.mk hR5
              have HZ5 := Aside0.mk (HZ.out.kf k5 (by simp))
              have HL5 := Aside0.mk (HL.out.step HHS.out hy5 hn5)
              clear h5 hR5 k5 hy5 hn5 hfd HR HRF HZ HL c0 he
              go_wp2_with fail
              go_roundg k1
              case measure => omega
              case rel => exact ⟨b5, _, A5, c5, fs5, rfl, H5, HR5, HZ5, HL5⟩
end Go.Proofs.YtljlkpfiebcoeaaGreatDoor.H
