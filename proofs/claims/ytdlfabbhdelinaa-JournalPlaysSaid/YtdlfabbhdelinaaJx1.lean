/- The document's disk, walked: ask, burns, Left, Switch, Sync, Append. No condition but those typed. -/
import Derived.Test.YtdlfabbhdelinaaShort
import Derived.Test.YtdlfabbhdelinaaWalk0
import Derived.Test.YtdlfabbhdelinaaDisk09
import Derived.Test.YtdlfabbhdelinaaDr
import Derived.Test.YtdlfabbhdelinaaJw2
import Derived.Outline
namespace Go.Proofs.Ytdlfabbhdelinaa.Q
open Go.RowKit Go.Proofs.YtdlfabbhdelinaaW.PrintWords Go.Proofs.YtdlfabbhdelinaaW.PrintLast Go.Proofs.YtdlfabbhdelinaaW.PrintMore
open Go.Proofs.Ytdlfabbhdelinaa.Dk Go.Proofs.Ytdlfabbhdelinaa.Sh
attribute [local go_sem] max2_int min2_int max_two min_two max_three min_three max_four min_four   -- for this text's walks alone
set_option linter.unusedVariables false
set_option linter.unusedSimpArgs false
set_option maxRecDepth 100000
/-- What burns leaves and answers. -/
def buD (d : D) : D := if 0 < d.fuse then { d with fuse := d.fuse - 1 } else if d.fuse = 0 then { d with off := true, fuse := -1 } else d
def buB (d : D) : Bool := if d.fuse = 0 then d.behind else true
def buE (d : D) : Int := if d.fuse = 0 then 12 else 0
theorem act_bu (dof : D → D) (d : D) : actD 0 dof d = if buB d = true then dof (buD d) else buD d := by
  unfold actD buB buD
  rw [if_neg (by decide)]
  by_cases h : 0 < d.fuse
  · have h0 : ¬ d.fuse = 0 := by omega
    simp only [if_pos h, if_neg h0, if_true]
  · by_cases h0 : d.fuse = 0
    · simp only [if_neg h, if_pos h0]
    · simp only [if_neg h, if_neg h0, if_true]
theorem act_buE (d : D) : actE 0 d = buE d := by
  unfold actE buE
  rw [if_neg (by decide)]
theorem gate_off {d : D} (h : d.off = true) (i : Bool) (e : Int) (d' : D) : gateE d (iv i) e = 12 ∧ gateD d (iv i) d' = d := by
  unfold gateE gateD
  have hr : rdE d = 12 := if_pos h
  rw [fe_iv, hr]
  exact ⟨if_pos (by decide), if_pos (by decide)⟩
theorem gate_on {d : D} (h : d.off = false) (i : Bool) (e : Int) (d' : D) : gateE d (iv i) e = e ∧ gateD d (iv i) d' = d' := by
  unfold gateE gateD
  have hr : rdE d = 0 := if_neg (by rw [h]; decide)
  rw [fe_iv, hr]
  exact ⟨if_neg (by decide), if_neg (by decide)⟩
theorem rask.calls {g : Nat} {ok : Nat → Prop} {d : D} {w : World} (h : Dr.At g ok d w) (i : Bool) :
    Calls Try.prog 71 #[.pointer (some ⟨g, 0, none⟩), .int .i64 (iv i)] w fun e w' => e = .returned (.int .i64 (if d.off = true then 12 else 0)) ∧ w' = w := by
  obtain ⟨v0, v1, v2, v3, HA, _⟩ := h.ex
  have x8 : w.cell? ⟨g, 8, none⟩ = some (.bool d.off) := HA.cell 8
  clear HA h
  cases ho : d.off <;> rw [ho] at x8 <;> cases i <;> simp only [iv]
  · go_enter Try.func71, Try.ntmps71
    go_wp2_with fail
    go_ret
    exact ⟨rfl, rfl⟩
  · go_enter Try.func71, Try.ntmps71
    go_wp2_with fail
    go_ret
    exact ⟨rfl, rfl⟩
  · go_enter Try.func71, Try.ntmps71
    go_wp2_with fail
    go_ret
    exact ⟨rfl, rfl⟩
  · go_enter Try.func71, Try.ntmps71
    go_wp2_with fail
    go_ret
    exact ⟨rfl, rfl⟩
theorem rburns.calls {g : Nat} {ok : Nat → Prop} {d : D} {w : World} (h : Dr.At g ok d w) (hf : -1 ≤ d.fuse ∧ d.fuse < 9223372036854775808) :
    Calls Try.prog 72 #[.pointer (some ⟨g, 0, none⟩)] w fun e w' => e = .returned (.tuple #[.bool (buB d), .int .i64 (buE d)]) ∧ Dr.At g ok (buD d) w' ∧ Tn g w w' := by
  have H := Aside0.mk h
  obtain ⟨v0, v1, v2, v3, HA, V0, V1, V2, V3⟩ := h.ex
  have hn := Aside0.mk H.out.nok
  have HV := Aside0.mk (And.intro V0 (And.intro V1 (And.intro V2 V3)))
  have HA_ := Aside0.mk HA
  clear V0 V1 V2 V3 h
  have fin : ∀ (d' : D) (W : World), d'.a = d.a → d'.b = d.b → Blk.At g (cells v0 v1 v2 v3 d') 65 W → Tn g w W → Dr.At g ok d' W := by
    intro d' W ha hb hA hT
    obtain ⟨V0, V1, V2, V3⟩ := HV.out
    exact H.out.turn hT hA (by rw [ha]; exact V_tn V0 hn.out hT) (by rw [ha]; exact V_tn V1 hn.out hT) (by rw [hb]; exact V_tn V2 hn.out hT) (by rw [hb]; exact V_tn V3 hn.out hT)
  have FIN := Aside0.mk fin
  clear fin
  by_cases t1 : 0 < d.fuse
  · have e1 : buD d = { d with fuse := d.fuse - 1 } ∧ buB d = true ∧ buE d = 0 := ⟨if_pos t1, if_neg (by omega), if_neg (by omega)⟩
    rw [e1.1, e1.2.1, e1.2.2]
    have b1 : decide (d.fuse > 0) = true := decide_eq_true t1
    have b2 : decide (0 < d.fuse) = true := decide_eq_true t1
    have hw : wrap64 (d.fuse - 1) = d.fuse - 1 := by unfold wrap64; omega
    clear e1 t1
    have x8 : w.cell? ⟨g, 8, none⟩ = some (.bool d.off) := HA.cell 8
    have z8 : w.frozen? ⟨g, 8, none⟩ = false := HA.frozen 8
    have x9 : w.cell? ⟨g, 9, none⟩ = some (.int .i64 d.fuse) := HA.cell 9
    have z9 : w.frozen? ⟨g, 9, none⟩ = false := HA.frozen 9
    have x10 : w.cell? ⟨g, 10, none⟩ = some (.bool d.behind) := HA.cell 10
    have z10 : w.frozen? ⟨g, 10, none⟩ = false := HA.frozen 10
    have T := Aside0.mk ((Tn.refl g w).set_own 9 (.int .i64 (d.fuse - 1)))
    clear HA
    go_enter Try.func72, Try.ntmps72
    go_wp2_with fail
    go_ret2
    exact ⟨rfl, FIN.out _ _ rfl rfl (HA_.out.set 9 _) T.out, T.out⟩
  by_cases t2 : d.fuse = 0
  · have e1 : buD d = { d with off := true, fuse := -1 } ∧ buB d = d.behind ∧ buE d = 12 := ⟨(if_neg t1).trans (if_pos t2), if_pos t2, if_pos t2⟩
    rw [e1.1, e1.2.1, e1.2.2]
    have x8 : w.cell? ⟨g, 8, none⟩ = some (.bool d.off) := HA.cell 8
    have z8 : w.frozen? ⟨g, 8, none⟩ = false := HA.frozen 8
    have x9 : w.cell? ⟨g, 9, none⟩ = some (.int .i64 d.fuse) := HA.cell 9
    have z9 : w.frozen? ⟨g, 9, none⟩ = false := HA.frozen 9
    have x10 : w.cell? ⟨g, 10, none⟩ = some (.bool d.behind) := HA.cell 10
    have z10 : w.frozen? ⟨g, 10, none⟩ = false := HA.frozen 10
    rw [t2] at x9
    clear e1 t1 t2 HA
    have T := Aside0.mk (((Tn.refl g w).set_own 8 (.bool true)).set_own 9 (.int .i64 (-1)))
    go_enter Try.func72, Try.ntmps72
    go_wp2_with fail
    go_ret2
    exact ⟨rfl, FIN.out _ _ rfl rfl ((HA_.out.set 8 _).set 9 _) T.out, T.out⟩
  · have e1 : buD d = d ∧ buB d = true ∧ buE d = 0 := ⟨(if_neg t1).trans (if_neg t2), if_neg t2, if_neg t2⟩
    rw [e1.1, e1.2.1, e1.2.2]
    have x8 : w.cell? ⟨g, 8, none⟩ = some (.bool d.off) := HA.cell 8
    have z8 : w.frozen? ⟨g, 8, none⟩ = false := HA.frozen 8
    have x9 : w.cell? ⟨g, 9, none⟩ = some (.int .i64 d.fuse) := HA.cell 9
    have z9 : w.frozen? ⟨g, 9, none⟩ = false := HA.frozen 9
    have x10 : w.cell? ⟨g, 10, none⟩ = some (.bool d.behind) := HA.cell 10
    have z10 : w.frozen? ⟨g, 10, none⟩ = false := HA.frozen 10
    have hm : d.fuse = -1 := by omega
    rw [hm] at x9
    clear e1 t1 t2 hm HA
    go_enter Try.func72, Try.ntmps72
    go_wp2_with fail
    go_ret2
    exact ⟨rfl, H.out, Tn.refl g _⟩
theorem rLeft.calls {g : Nat} {ok : Nat → Prop} {d : D} {w : World} (h : Dr.At g ok d w) (hr : Room d) :
    Calls Try.prog 36 #[.pointer (some ⟨g, 0, none⟩)] w fun e w' => e = .returned (.int .i64 (leftN d)) ∧ w' = w.drew := by
  obtain ⟨v0, v1, v2, v3, HA, V0, V1, V2, V3⟩ := h.ex
  obtain ⟨A0, c0, rfl⟩ := Kd.V_slice V0
  obtain ⟨A2, c2, rfl⟩ := Kd.V_slice V2
  have x0 : w.cell? ⟨g, 0, none⟩ = some (.slice A0 d.a.now.length c0) := HA.cell 0
  have x3 : w.cell? ⟨g, 3, none⟩ = some (.slice A2 d.b.now.length c2) := HA.cell 3
  have x7 : w.cell? ⟨g, 7, none⟩ = some (.int .i64 d.room) := HA.cell 7
  obtain ⟨l0, hl0⟩ : ∃ l, l = d.a.now.length := ⟨_, rfl⟩
  obtain ⟨l2, hl2⟩ : ∃ l, l = d.b.now.length := ⟨_, rfl⟩
  obtain ⟨r, hr7⟩ : ∃ r, r = d.room := ⟨_, rfl⟩
  obtain ⟨m, hm⟩ : ∃ m, m = r - (l0 : Int) := ⟨_, rfl⟩
  obtain ⟨k, hk⟩ : ∃ k, k = m - (l2 : Int) := ⟨_, rfl⟩
  have h1 := hr.pos
  have h2 := hr.most
  have h3 := hr.la
  have h4 := hr.lb
  have hw1 : wrap64 (r - (l0 : Int)) = m := by rw [hm]; unfold wrap64; omega
  have hw2 : wrap64 (m - (l2 : Int)) = k := by rw [hk]; unfold wrap64; omega
  have hL : leftN d = k := by unfold leftN; rw [hk, hm, hl0, hl2, hr7]
  rw [← hl0] at x0
  rw [← hl2] at x3
  rw [← hr7] at x7
  rw [hL]
  clear HA V0 V1 V2 V3 h hr hl0 hl2 hr7 hm hk h1 h2 h3 h4 hL
  go_enter Try.func36, Try.ntmps36
  go_wp2_with fail
  refine start_ (n := 21) (S := fun w' => w'.cell? ⟨g, 0, none⟩ = some (.slice A0 l0 c0) ∧ w'.cell? ⟨g, 3, none⟩ = some (.slice A2 l2 c2) ∧ w'.cell? ⟨g, 7, none⟩ = some (.int .i64 r)) (ds := []) (bl 21 0x0) (by kernel_rfl) rfl (by kernel_rfl) ⟨x0, x3, x7⟩ (fun hHeld => ?_)
  refine pu 0 (some 3) (bl 21 0x1) ?_
  refine pu 1 (some 4) (bl 21 0x3) ?_
  refine pu 2 (some 5) (bl 21 0x7) ?_
  refine pu 4 (some 7) (bl 21 0x17) ?_
  refine pu 5 (some 8) (bl 21 0x37) ?_
  refine pu 6 (some 9) (bl 21 0x77) ?_
  refine pu 7 (some 10) (bl 21 0xf7) ?_
  refine pu 8 (some 11) (bl 21 0x1f7) ?_
  refine pu 12 (some 15) (bl 21 0x11f7) ?_
  refine pu 13 (some 16) (bl 21 0x31f7) ?_
  refine pu 14 (some 17) (bl 21 0x71f7) ?_
  refine pu 15 (some 18) (bl 21 0xf1f7) ?_
  refine pu 16 (some 19) (bl 21 0x1f1f7) ?_
  refine tk 3 (some 6) (bl 21 0x1f1ff) hHeld ?_
  refine tk 9 (some 12) (bl 21 0x1f3ff) hHeld ?_
  refine pu 10 (some 13) (bl 21 0x1f7ff) ?_
  refine pu 11 (some 14) (bl 21 0x1ffff) ?_
  refine tk 17 (some 20) (bl 21 0x3ffff) hHeld ?_
  refine pu 18 (some 21) (bl 21 0x7ffff) ?_
  refine pu 19 (some 22) (bl 21 0xfffff) ?_
  refine pu 20 (some 2) (bl 21 0x1fffff) ?_
  refine done_ (by kernel_rfl) ?_
  go_wp2_with fail
  go_ret
  exact ⟨rfl, rfl⟩
set_option maxHeartbeats 4000000 in
theorem rSwitch.calls {g : Nat} {ok : Nat → Prop} {d : D} {w : World} (h : Dr.At g ok d w) (hg : Good d) (i : Bool) :
    Calls Try.prog 75 #[.pointer (some ⟨g, 0, none⟩), .int .i64 (iv i)] w fun e w' => e = .returned (.int .i64 (swE (iv i) d)) ∧ Dr.At g ok (swD (iv i) d) w' ∧ Tn g w w' := by
  have H := Aside0.mk h
  have HG := Aside0.mk hg
  have HASK := Aside0.mk (rask.calls h i)
  skip
  clear h hg
  cases ho : d.off
  case true =>
    have hE := gate_off ho i (actE 0 d) (actD 0 (swi (iv i)) d)
    rw [show swE (iv i) d = 12 from hE.1, show swD (iv i) d = d from hE.2]
    rw [ho, if_pos rfl] at HASK
    clear hE ho
    go_enter Try.func75, Try.ntmps75
    go_wp2_with fail
    refine HASK.out.mono ?_
    rintro e w1 ⟨rfl, rfl⟩
    go_wp2_with fail
    go_ret
    exact ⟨rfl, H.out, Tn.refl g _⟩
  have hE : swE (iv i) d = actE 0 d ∧ swD (iv i) d = actD 0 (swi (iv i)) d := gate_on ho i (actE 0 d) (actD 0 (swi (iv i)) d)
  rw [ho, if_neg (by decide)] at HASK
  have HBU := Aside0.mk (rburns.calls H.out HG.out.fuse)
  have hoB := act_bu (swi (iv i)) d
  rw [show swE (iv i) d = buE d from hE.1.trans (act_buE d), show swD (iv i) d = if buB d = true then (swi (iv i)) (buD d) else buD d from hE.2.trans hoB]
  clear hE hoB ho
  obtain ⟨B, hB⟩ : ∃ B, B = buB d := ⟨_, rfl⟩
  obtain ⟨E, hEE⟩ : ∃ E, E = buE d := ⟨_, rfl⟩
  obtain ⟨d1, hd1⟩ : ∃ d1, d1 = buD d := ⟨_, rfl⟩
  skip
  rw [← hB, ← hEE, ← hd1] at HBU
  rw [← hB, ← hEE, ← hd1]
  obtain ⟨D2, hD2⟩ : ∃ D2, D2 = (if B = true then (swi (iv i)) d1 else d1) := ⟨_, rfl⟩
  rw [← hD2]
  have HD2 := Aside0.mk hD2
  clear hB hEE hd1 hD2
  cases i <;> simp only [iv] at HASK ⊢
  · go_enter Try.func75, Try.ntmps75
    go_wp2_with fail
    refine HASK.out.mono ?_
    rintro e w1 ⟨rfl, rfl⟩
    go_wp2_with fail
    refine HBU.out.mono ?_
    rintro e w2 ⟨rfl, hA, hT⟩
    have HA1 := Aside0.mk hA
    have HT1 := Aside0.mk hT
    clear hA hT
    cases B
    · have e2 := HD2.out
      rw [if_neg (by decide)] at e2
      clear HD2
      subst e2
      go_wp2_with fail
      go_ret
      exact ⟨rfl, HA1.out, HT1.out⟩
    · have e2 := HD2.out
      rw [if_pos rfl] at e2
      clear HD2
      subst e2
      obtain ⟨v0, v1, v2, v3, HA, V0, V1, V2, V3⟩ := HA1.out.ex
      have x6 : w2.cell? ⟨g, 6, none⟩ = some (.int .i64 d1.root) := HA.cell 6
      have z6 : w2.frozen? ⟨g, 6, none⟩ = false := HA.frozen 6
      have HA_ := Aside0.mk (HA.set 6 (.int .i64 0))
      have T := Aside0.mk (HT1.out.set_own 6 (.int .i64 0))
      have T2 := Aside0.mk ((Tn.refl g w2).set_own 6 (.int .i64 0))
      have HV := Aside0.mk (And.intro V0 (And.intro V1 (And.intro V2 V3)))
      clear HA V0 V1 V2 V3
      go_wp2_with fail
      obtain ⟨V0, V1, V2, V3⟩ := HV.out
      have hn := HA1.out.nok
      go_ret
      exact ⟨rfl, HA1.out.turn T2.out HA_.out (V_tn V0 hn T2.out) (V_tn V1 hn T2.out) (V_tn V2 hn T2.out) (V_tn V3 hn T2.out), T.out⟩
  · go_enter Try.func75, Try.ntmps75
    go_wp2_with fail
    refine HASK.out.mono ?_
    rintro e w1 ⟨rfl, rfl⟩
    go_wp2_with fail
    refine HBU.out.mono ?_
    rintro e w2 ⟨rfl, hA, hT⟩
    have HA1 := Aside0.mk hA
    have HT1 := Aside0.mk hT
    clear hA hT
    cases B
    · have e2 := HD2.out
      rw [if_neg (by decide)] at e2
      clear HD2
      subst e2
      go_wp2_with fail
      go_ret
      exact ⟨rfl, HA1.out, HT1.out⟩
    · have e2 := HD2.out
      rw [if_pos rfl] at e2
      clear HD2
      subst e2
      obtain ⟨v0, v1, v2, v3, HA, V0, V1, V2, V3⟩ := HA1.out.ex
      have x6 : w2.cell? ⟨g, 6, none⟩ = some (.int .i64 d1.root) := HA.cell 6
      have z6 : w2.frozen? ⟨g, 6, none⟩ = false := HA.frozen 6
      have HA_ := Aside0.mk (HA.set 6 (.int .i64 1))
      have T := Aside0.mk (HT1.out.set_own 6 (.int .i64 1))
      have T2 := Aside0.mk ((Tn.refl g w2).set_own 6 (.int .i64 1))
      have HV := Aside0.mk (And.intro V0 (And.intro V1 (And.intro V2 V3)))
      clear HA V0 V1 V2 V3
      go_wp2_with fail
      obtain ⟨V0, V1, V2, V3⟩ := HV.out
      have hn := HA1.out.nok
      go_ret
      exact ⟨rfl, HA1.out.turn T2.out HA_.out (V_tn V0 hn T2.out) (V_tn V1 hn T2.out) (V_tn V2 hn T2.out) (V_tn V3 hn T2.out), T.out⟩
set_option maxHeartbeats 4000000 in
theorem rSync.calls {g : Nat} {ok : Nat → Prop} {d : D} {w : World} (h : Dr.At g ok d w) (hg : Good d) (i : Bool) :
    Calls Try.prog 54 #[.pointer (some ⟨g, 0, none⟩), .int .i64 (iv i)] w fun e w' => e = .returned (.int .i64 (syE (iv i) d)) ∧ Dr.At g ok (syD (iv i) d) w' ∧ Tn g w w' := by
  have H := Aside0.mk h
  have HG := Aside0.mk hg
  have HASK := Aside0.mk (rask.calls h i)
  skip
  clear h hg
  cases ho : d.off
  case true =>
    have hE := gate_off ho i (actE 0 d) (actD 0 (syn (bi (iv i))) d)
    rw [show syE (iv i) d = 12 from hE.1, show syD (iv i) d = d from hE.2]
    rw [ho, if_pos rfl] at HASK
    clear hE ho
    go_enter Try.func54, Try.ntmps54
    go_wp2_with fail
    refine HASK.out.mono ?_
    rintro e w1 ⟨rfl, rfl⟩
    go_wp2_with fail
    go_ret
    exact ⟨rfl, H.out, Tn.refl g _⟩
  have hE : syE (iv i) d = actE 0 d ∧ syD (iv i) d = actD 0 (syn (bi (iv i))) d := gate_on ho i (actE 0 d) (actD 0 (syn (bi (iv i))) d)
  rw [ho, if_neg (by decide)] at HASK
  have HBU := Aside0.mk (rburns.calls H.out HG.out.fuse)
  have hoB := act_bu (syn (bi (iv i))) d
  rw [show syE (iv i) d = buE d from hE.1.trans (act_buE d), show syD (iv i) d = if buB d = true then (syn (bi (iv i))) (buD d) else buD d from hE.2.trans hoB]
  clear hE hoB ho
  obtain ⟨B, hB⟩ : ∃ B, B = buB d := ⟨_, rfl⟩
  obtain ⟨E, hEE⟩ : ∃ E, E = buE d := ⟨_, rfl⟩
  obtain ⟨d1, hd1⟩ : ∃ d1, d1 = buD d := ⟨_, rfl⟩
  skip
  rw [← hB, ← hEE, ← hd1] at HBU
  rw [← hB, ← hEE, ← hd1]
  obtain ⟨D2, hD2⟩ : ∃ D2, D2 = (if B = true then (syn (bi (iv i))) d1 else d1) := ⟨_, rfl⟩
  rw [← hD2]
  have HD2 := Aside0.mk hD2
  clear hB hEE hd1 hD2
  rw [bi_iv] at HD2
  cases i <;> simp only [iv] at HASK ⊢
  · go_enter Try.func54, Try.ntmps54
    go_wp2_with fail
    refine HASK.out.mono ?_
    rintro e w1 ⟨rfl, rfl⟩
    go_wp2_with fail
    refine HBU.out.mono ?_
    rintro e w2 ⟨rfl, hA, hT⟩
    have HA1 := Aside0.mk hA
    have HT1 := Aside0.mk hT
    clear hA hT
    cases B
    · have e2 := HD2.out
      rw [if_neg (by decide)] at e2
      clear HD2
      subst e2
      go_wp2_with fail
      go_ret
      exact ⟨rfl, HA1.out, HT1.out⟩
    · have e2 := HD2.out
      rw [if_pos rfl] at e2
      clear HD2
      subst e2
      obtain ⟨v0, v1, v2, v3, HA, V0, V1, V2, V3⟩ := HA1.out.ex
      obtain ⟨A0, c0, rfl⟩ := Kd.V_slice V0
      have x : w2.cell? ⟨g, 0, none⟩ = some (.slice A0 d1.a.now.length c0) := HA.cell 0
      have z1 : w2.frozen? ⟨g, 1, none⟩ = false := HA.frozen 1
      have z2 : w2.frozen? ⟨g, 2, none⟩ = false := HA.frozen 2
      have y1 : w2.cell? ⟨g, 1, none⟩ = some v1 := HA.cell 1
      have y2 : w2.cell? ⟨g, 2, none⟩ = some (.int .i64 d1.a.cut) := HA.cell 2
      have HA_ := Aside0.mk ((HA.set 1 (.slice A0 d1.a.now.length c0)).set 2 (.int .i64 (-1)))
      have T := Aside0.mk ((HT1.out.set_own 1 (.slice A0 d1.a.now.length c0)).set_own 2 (.int .i64 (-1))).drew
      have T2 := Aside0.mk (((Tn.refl g w2).set_own 1 (.slice A0 d1.a.now.length c0)).set_own 2 (.int .i64 (-1))).drew
      have HV := Aside0.mk (And.intro V0 (And.intro V1 (And.intro V2 V3)))
      have HX := Aside0.mk HA
      clear HA V0 V1 V2 V3
      go_wp2_with fail
      refine start_ (n := 21) (S := fun w' => w'.cell? ⟨g, 0, none⟩ = some (.slice A0 d1.a.now.length c0)) (ds := [15, 20]) (bl 21 0x0) (by kernel_rfl) rfl (by kernel_rfl) (x) (fun hHeld => ?_)
      refine pu 0 (some 20) (bl 21 0x1) ?_
      refine pu 1 (some 21) (bl 21 0x3) ?_
      refine pu 2 (some 22) (bl 21 0x7) ?_
      refine pu 3 (some 23) (bl 21 0xf) ?_
      refine pu 4 (some 24) (bl 21 0x1f) ?_
      refine pu 5 (some 25) (bl 21 0x3f) ?_
      refine pu 6 (some 26) (bl 21 0x7f) ?_
      refine pu 7 (some 27) (bl 21 0xff) ?_
      refine pu 8 (some 28) (bl 21 0x1ff) ?_
      refine pu 9 (some 29) (bl 21 0x3ff) ?_
      refine pu 11 (some 31) (bl 21 0xbff) ?_
      refine pu 12 (some 32) (bl 21 0x1bff) ?_
      refine pu 16 (some 35) (bl 21 0x11bff) ?_
      refine pu 17 (some 36) (bl 21 0x31bff) ?_
      refine tk 10 (some 30) (bl 21 0x31fff) hHeld ?_
      refine pu 13 (some 33) (bl 21 0x33fff) ?_
      refine pu 14 (some 34) (bl 21 0x37fff) ?_
      refine last_ (i := 15) (N := none) (bl 21 0x3ffff) rfl rfl (by kernel_rfl) (by decide) (fun K hK => ?_)
      refine skip_ (w1 := ?_) (by rfl) rfl ?_ ?_
      rotate_left
      · go_simp
        rfl
      refine hK.out _ _ ?_
      clear hK K
      refine pu 18 (some 37) (bl 21 0x7ffff) ?_
      refine pu 19 (some 38) (bl 21 0xfffff) ?_
      refine last_ (i := 20) (N := none) (bl 21 0x1fffff) rfl rfl (by kernel_rfl) (by decide) (fun K hK => ?_)
      refine skip_ (w1 := ?_) (by rfl) rfl ?_ ?_
      rotate_left
      · go_simp
        rfl
      refine hK.out _ _ ?_
      clear hK K
      refine done_ (by kernel_rfl) ?_
      go_wp2_with fail
      obtain ⟨V0, V1, V2, V3⟩ := HV.out
      have hn := HA1.out.nok
      go_ret
      exact ⟨rfl, HA1.out.turn T2.out HA_.out (V_tn V0 hn T2.out) (V_tn V0 hn T2.out) (V_tn V2 hn T2.out) (V_tn V3 hn T2.out), T.out⟩
  · go_enter Try.func54, Try.ntmps54
    go_wp2_with fail
    refine HASK.out.mono ?_
    rintro e w1 ⟨rfl, rfl⟩
    go_wp2_with fail
    refine HBU.out.mono ?_
    rintro e w2 ⟨rfl, hA, hT⟩
    have HA1 := Aside0.mk hA
    have HT1 := Aside0.mk hT
    clear hA hT
    cases B
    · have e2 := HD2.out
      rw [if_neg (by decide)] at e2
      clear HD2
      subst e2
      go_wp2_with fail
      go_ret
      exact ⟨rfl, HA1.out, HT1.out⟩
    · have e2 := HD2.out
      rw [if_pos rfl] at e2
      clear HD2
      subst e2
      obtain ⟨v0, v1, v2, v3, HA, V0, V1, V2, V3⟩ := HA1.out.ex
      obtain ⟨A2, c2, rfl⟩ := Kd.V_slice V2
      have x : w2.cell? ⟨g, 3, none⟩ = some (.slice A2 d1.b.now.length c2) := HA.cell 3
      have z1 : w2.frozen? ⟨g, 4, none⟩ = false := HA.frozen 4
      have z2 : w2.frozen? ⟨g, 5, none⟩ = false := HA.frozen 5
      have y1 : w2.cell? ⟨g, 4, none⟩ = some v3 := HA.cell 4
      have y2 : w2.cell? ⟨g, 5, none⟩ = some (.int .i64 d1.b.cut) := HA.cell 5
      have HA_ := Aside0.mk ((HA.set 4 (.slice A2 d1.b.now.length c2)).set 5 (.int .i64 (-1)))
      have T := Aside0.mk ((HT1.out.set_own 4 (.slice A2 d1.b.now.length c2)).set_own 5 (.int .i64 (-1))).drew
      have T2 := Aside0.mk (((Tn.refl g w2).set_own 4 (.slice A2 d1.b.now.length c2)).set_own 5 (.int .i64 (-1))).drew
      have HV := Aside0.mk (And.intro V0 (And.intro V1 (And.intro V2 V3)))
      have HX := Aside0.mk HA
      clear HA V0 V1 V2 V3
      go_wp2_with fail
      refine start_ (n := 21) (S := fun w' => w'.cell? ⟨g, 3, none⟩ = some (.slice A2 d1.b.now.length c2)) (ds := [15, 20]) (bl 21 0x0) (by kernel_rfl) rfl (by kernel_rfl) (x) (fun hHeld => ?_)
      refine pu 0 (some 20) (bl 21 0x1) ?_
      refine pu 1 (some 21) (bl 21 0x3) ?_
      refine pu 2 (some 22) (bl 21 0x7) ?_
      refine pu 3 (some 23) (bl 21 0xf) ?_
      refine pu 4 (some 24) (bl 21 0x1f) ?_
      refine pu 5 (some 25) (bl 21 0x3f) ?_
      refine pu 6 (some 26) (bl 21 0x7f) ?_
      refine pu 7 (some 27) (bl 21 0xff) ?_
      refine pu 8 (some 28) (bl 21 0x1ff) ?_
      refine pu 9 (some 29) (bl 21 0x3ff) ?_
      refine pu 11 (some 31) (bl 21 0xbff) ?_
      refine pu 12 (some 32) (bl 21 0x1bff) ?_
      refine pu 16 (some 35) (bl 21 0x11bff) ?_
      refine pu 17 (some 36) (bl 21 0x31bff) ?_
      refine tk 10 (some 30) (bl 21 0x31fff) hHeld ?_
      refine pu 13 (some 33) (bl 21 0x33fff) ?_
      refine pu 14 (some 34) (bl 21 0x37fff) ?_
      refine last_ (i := 15) (N := none) (bl 21 0x3ffff) rfl rfl (by kernel_rfl) (by decide) (fun K hK => ?_)
      refine skip_ (w1 := ?_) (by rfl) rfl ?_ ?_
      rotate_left
      · go_simp
        rfl
      refine hK.out _ _ ?_
      clear hK K
      refine pu 18 (some 37) (bl 21 0x7ffff) ?_
      refine pu 19 (some 38) (bl 21 0xfffff) ?_
      refine last_ (i := 20) (N := none) (bl 21 0x1fffff) rfl rfl (by kernel_rfl) (by decide) (fun K hK => ?_)
      refine skip_ (w1 := ?_) (by rfl) rfl ?_ ?_
      rotate_left
      · go_simp
        rfl
      refine hK.out _ _ ?_
      clear hK K
      refine done_ (by kernel_rfl) ?_
      go_wp2_with fail
      obtain ⟨V0, V1, V2, V3⟩ := HV.out
      have hn := HA1.out.nok
      go_ret
      exact ⟨rfl, HA1.out.turn T2.out HA_.out (V_tn V0 hn T2.out) (V_tn V1 hn T2.out) (V_tn V2 hn T2.out) (V_tn V2 hn T2.out), T.out⟩
theorem act_no {m : Int} (h : m ≠ 0) (dof : D → D) (d : D) : actE m d = m ∧ actD m dof d = d := ⟨if_pos h, if_pos h⟩
theorem buD_fl (d : D) : (buD d).a = d.a ∧ (buD d).b = d.b ∧ (buD d).room = d.room ∧ (buD d).root = d.root := by
  unfold buD
  split
  · exact ⟨rfl, rfl, rfl, rfl⟩
  split
  · exact ⟨rfl, rfl, rfl, rfl⟩
  · exact ⟨rfl, rfl, rfl, rfl⟩
set_option maxHeartbeats 4000000 in
theorem rAppend.calls {g : Nat} {ok : Nat → Prop} {d : D} {w : World} (h : Dr.At g ok d w) (hg : Good d) (i : Bool) {okb : Nat → Prop} {bv : Value} {b : List Int} (hb : Vb okb w bv b) (hbg : ¬ okb g) (hbl : b.length ≤ 2000000) :
    Calls Try.prog 73 #[.pointer (some ⟨g, 0, none⟩), .int .i64 (iv i), bv] w fun e w' => e = .returned (.int .i64 (apE (iv i) b d)) ∧ Dr.At g ok (apD (iv i) b d) w' ∧ Tn g w w' := by
  have H := Aside0.mk h
  have HG := Aside0.mk hg
  have HASK := Aside0.mk (rask.calls h i)

  obtain ⟨B_, cb, rfl⟩ := Kd.V_slice hb
  have YB := Aside0.mk hb
  have HBG := Aside0.mk hbg
  have HBL := Aside0.mk hbl
  clear hb hbg hbl
  clear h hg
  cases ho : d.off
  case true =>
    have hE := gate_off ho i (actE (room1 d b.length) d) (actD (room1 d b.length) (app (bi (iv i)) b) d)
    rw [show apE (iv i) b d = 12 from hE.1, show apD (iv i) b d = d from hE.2]
    rw [ho, if_pos rfl] at HASK
    clear hE ho
    go_enter Try.func73, Try.ntmps73
    go_wp2_with fail
    refine HASK.out.mono ?_
    rintro e w1 ⟨rfl, rfl⟩
    go_wp2_with fail
    go_ret
    exact ⟨rfl, H.out, Tn.refl g _⟩
  have hE : apE (iv i) b d = actE (room1 d b.length) d ∧ apD (iv i) b d = actD (room1 d b.length) (app (bi (iv i)) b) d := gate_on ho i (actE (room1 d b.length) d) (actD (room1 d b.length) (app (bi (iv i)) b) d)
  rw [ho, if_neg (by decide)] at HASK
  have HLF := Aside0.mk (rLeft.calls H.out HG.out.room)
  have hlf : room1 d b.length = if leftN d < (b.length : Int) then 11 else 0 := rfl
  by_cases hc : leftN d < (b.length : Int)
  · rw [if_pos hc] at hlf
    have hno := act_no (m := room1 d b.length) (by rw [hlf]; decide) (app (bi (iv i)) b) d
    rw [show apE (iv i) b d = 11 from hE.1.trans (hno.1.trans hlf), show apD (iv i) b d = d from hE.2.trans hno.2]
    obtain ⟨lf, hl⟩ : ∃ lf, lf = leftN d := ⟨_, rfl⟩
    rw [← hl] at HLF hc
    have hcb : decide ((b.length : Int) > lf) = true := decide_eq_true hc
    have hcb2 : decide (lf < (b.length : Int)) = true := decide_eq_true hc
    clear hc hno hlf hl hE ho
    go_enter Try.func73, Try.ntmps73
    go_wp2_with fail
    refine HASK.out.mono ?_
    rintro e w1 ⟨rfl, rfl⟩
    go_wp2_with fail
    refine HLF.out.mono ?_
    rintro e w2 ⟨rfl, rfl⟩
    go_wp2_with fail
    go_ret
    exact ⟨rfl, H.out.below (below_drew (Below.refl _ _)), (Tn.refl g _).drew⟩
  rw [if_neg hc] at hlf
  replace hE : apE (iv i) b d = actE 0 d ∧ apD (iv i) b d = actD 0 (app (bi (iv i)) b) d := ⟨hE.1.trans (by rw [hlf]), hE.2.trans (by rw [hlf])⟩
  obtain ⟨lf, hl⟩ : ∃ lf, lf = leftN d := ⟨_, rfl⟩
  rw [← hl] at HLF hc
  have hcb : decide ((b.length : Int) > lf) = false := decide_eq_false hc
  have hcb2 : decide (lf < (b.length : Int)) = false := decide_eq_false hc
  clear hc hlf hl
  have HBU := Aside0.mk (rburns.calls (w := w.drew) (H.out.below (below_drew (Below.refl _ _))) HG.out.fuse)
  have hoB := act_bu (app (bi (iv i)) b) d
  rw [show apE (iv i) b d = buE d from hE.1.trans (act_buE d), show apD (iv i) b d = if buB d = true then (app (bi (iv i)) b) (buD d) else buD d from hE.2.trans hoB]
  clear hE hoB ho
  obtain ⟨B, hB⟩ : ∃ B, B = buB d := ⟨_, rfl⟩
  obtain ⟨E, hEE⟩ : ∃ E, E = buE d := ⟨_, rfl⟩
  obtain ⟨d1, hd1⟩ : ∃ d1, d1 = buD d := ⟨_, rfl⟩

  have hd0 : d1.a = d.a ∧ d1.b = d.b := by rw [hd1]; exact ⟨(buD_fl d).1, (buD_fl d).2.1⟩
  have HD0 := Aside0.mk hd0
  clear hd0

  rw [← hB, ← hEE, ← hd1] at HBU
  rw [← hB, ← hEE, ← hd1]
  obtain ⟨D2, hD2⟩ : ∃ D2, D2 = (if B = true then (app (bi (iv i)) b) d1 else d1) := ⟨_, rfl⟩
  rw [← hD2]
  have HD2 := Aside0.mk hD2
  clear hB hEE hd1 hD2
  rw [bi_iv] at HD2
  have HFL := Aside0.mk (show d1.a.now.length ≤ 2000000 ∧ d1.b.now.length ≤ 2000000 by rw [HD0.out.1, HD0.out.2]; have h1 := HG.out.room.la; have h2 := HG.out.room.lb; omega)
  cases i <;> simp only [iv] at HASK ⊢
  · go_enter Try.func73, Try.ntmps73
    go_wp2_with fail
    refine HASK.out.mono ?_
    rintro e w1 ⟨rfl, rfl⟩
    go_wp2_with fail
    refine HLF.out.mono ?_
    rintro e w2 ⟨rfl, rfl⟩
    go_wp2_with fail
    refine HBU.out.mono ?_
    rintro e w2 ⟨rfl, hA, hT⟩
    have HA1 := Aside0.mk hA
    have HT1 := Aside0.mk ((Tn.refl g w1).drew.trans hT)
    clear hA hT
    cases B
    · have e2 := HD2.out
      rw [if_neg (by decide)] at e2
      clear HD2
      subst e2
      go_wp2_with fail
      go_ret
      exact ⟨rfl, HA1.out, HT1.out⟩
    · have e2 := HD2.out
      rw [if_pos rfl] at e2
      clear HD2
      subst e2
      obtain ⟨v0, v1, v2, v3, HA, V0, V1, V2, V3⟩ := HA1.out.ex
      obtain ⟨A0, c0, rfl⟩ := Kd.V_slice V0
      have x : w2.cell? ⟨g, 0, none⟩ = some (.slice A0 d1.a.now.length c0) := HA.cell 0
      have X := Aside0.mk x
      have HA_ := Aside0.mk HA
      have HV := Aside0.mk (And.intro V0 (And.intro V1 (And.intro V2 V3)))
      have YB2 := Aside0.mk (V_tn YB.out HBG.out HT1.out)
      clear HA V0 V1 V2 V3
      go_wp2_with fail
      refine start_ (n := 17) (S := fun w' => w'.cell? ⟨g, 0, none⟩ = some (.slice A0 d1.a.now.length c0)) (ds := [16]) (bl 17 0x0) (by kernel_rfl) rfl (by kernel_rfl) (x) (fun hHeld => ?_)
      refine pu 0 (some 27) (bl 17 0x1) ?_
      refine pu 1 (some 28) (bl 17 0x3) ?_
      refine pu 2 (some 29) (bl 17 0x7) ?_
      refine pu 3 (some 30) (bl 17 0xf) ?_
      refine pu 4 (some 31) (bl 17 0x1f) ?_
      refine pu 5 (some 32) (bl 17 0x3f) ?_
      refine pu 6 (some 33) (bl 17 0x7f) ?_
      refine pu 7 (some 34) (bl 17 0xff) ?_
      refine pu 10 (some 37) (bl 17 0x4ff) ?_
      refine pu 12 (some 39) (bl 17 0x14ff) ?_
      refine pu 13 (some 40) (bl 17 0x34ff) ?_
      refine tk 8 (some 35) (bl 17 0x35ff) hHeld ?_
      refine one_ (i := 9) (N := some 36) (bl 17 0x37ff) rfl rfl (by kernel_rfl) (by decide) (fun K hK => ?_)
      refine Kd.R_append_rows_step (Kd.int .u8) (w0 := w2) w2.heap.size (by rfl) _ _ 22 5 (.int .u8 0) 1 rfl Try.underlying22 info5 rfl (by decide) (by decide) (.slice none 0 0) [] d1.a.now A0 d1.a.now.length c0 (fun _ => True) (fun _ => False) rfl rfl (Kd.R_nil _ _ _ _ _) (Kd.V_reads' (Kd.V_below HV.out.1 (below_drew (Below.refl _ _)))).2.2 (fun _ _ h => h) (fun _ h => h.elim) (fun _ _ => trivial) (below_drew (Below.refl _ _)) (Nat.le_refl _) (by have := HFL.out; simp; omega) ?_
      intro v4 w4 ho4 hb4 hg4 hat4
      rw [List.nil_append] at ho4
      obtain ⟨A4, c4, rfl⟩ := Kd.R_slice ho4
      have HO4 := Aside0.mk ho4
      have HB4 := Aside0.mk hb4
      clear ho4 hb4 hg4 hat4
      refine hK.out _ _ (pw_cell_below HB4.out X.out) (fun hHeld => ?_)
      clear hK K
      refine norm_ (a' := ?_) ?_ ?_
      rotate_left
      · show Act.put _ (some 36) _ = _
        simp only [Act.put, List.setIfInBounds_toArray, List.set_cons_zero, List.set_cons_succ, i64_w, i32_w]
        rfl
      refine one_ (i := 11) (N := some 38) (bl 17 0x3fff) rfl rfl (by kernel_rfl) (by decide) (fun K hK => ?_)
      refine Kd.R_append_rows_step (Kd.int .u8) (w0 := w2) w2.heap.size (by rfl) _ _ 22 5 (.int .u8 0) 1 rfl Try.underlying22 info5 rfl (by decide) (by decide) (.slice A4 d1.a.now.length c4) d1.a.now b B_ b.length cb (fun _ => True) (fun _ => False) rfl rfl HO4.out (Kd.V_reads' (Kd.V_below YB2.out HB4.out)).2.2 (fun _ _ h => h) (fun _ h => h.elim) (fun _ _ => trivial) HB4.out HB4.out.size (by have := HFL.out; have := HBL.out; omega) ?_
      intro v5 w5 ho5 hb5 hg5 hat5
      obtain ⟨zs, hz⟩ : ∃ zs, zs = d1.a.now ++ b := ⟨_, rfl⟩
      rw [← hz] at ho5
      obtain ⟨A5, c5, rfl⟩ := Kd.R_slice ho5
      have HO5 := Aside0.mk ho5
      have HB5 := Aside0.mk hb5
      have HZ := Aside0.mk hz
      clear ho5 hb5 hg5 hat5 hz
      have z4 : w5.frozen? ⟨g, 0, none⟩ = false := (HA_.out.below HB5.out HA1.out.lt).frozen 0
      have x4 : w5.cell? ⟨g, 0, none⟩ = some (.slice A0 d1.a.now.length c0) := pw_cell_below HB5.out X.out
      refine hK.out _ _ (pw_cell_below HB5.out X.out) (fun hHeld => ?_)
      clear hK K
      refine norm_ (a' := ?_) ?_ ?_
      rotate_left
      · show Act.put _ (some 38) _ = _
        simp only [Act.put, List.setIfInBounds_toArray, List.set_cons_zero, List.set_cons_succ, i64_w, i32_w]
        rfl
      refine pu 14 (some 41) (bl 17 0x7fff) ?_
      refine pu 15 (some 42) (bl 17 0xffff) ?_
      refine last_ (i := 16) (N := none) (bl 17 0x1ffff) rfl rfl (by kernel_rfl) (by decide) (fun K hK => ?_)
      refine skip_ (w1 := ?_) (by rfl) rfl ?_ ?_
      rotate_left
      · go_simp
        rfl
      refine hK.out _ _ ?_
      clear hK K
      refine done_ (by kernel_rfl) ?_
      go_wp2_with fail
      have T := (Tn.of_below (g := g) HB5.out).set_own 0 (.slice A5 zs.length c5)
      obtain ⟨V0, V1, V2, V3⟩ := HV.out
      have hn := HA1.out.nok
      have V4 : Vb ok (w5.setCell ⟨g, 0, none⟩ (.slice A5 zs.length c5)) (.slice A5 zs.length c5) zs := V_tn (V_own HO5.out HA1.out.fresh) hn ((Tn.refl g w5).set_own _ _)
      have hz := HZ.out
      subst hz
      go_ret
      exact ⟨rfl, HA1.out.turn T ((HA_.out.below HB5.out HA1.out.lt).set 0 _) V4 (V_tn V1 hn T) (V_tn V2 hn T) (V_tn V3 hn T), HT1.out.trans T⟩
  · go_enter Try.func73, Try.ntmps73
    go_wp2_with fail
    refine HASK.out.mono ?_
    rintro e w1 ⟨rfl, rfl⟩
    go_wp2_with fail
    refine HLF.out.mono ?_
    rintro e w2 ⟨rfl, rfl⟩
    go_wp2_with fail
    refine HBU.out.mono ?_
    rintro e w2 ⟨rfl, hA, hT⟩
    have HA1 := Aside0.mk hA
    have HT1 := Aside0.mk ((Tn.refl g w1).drew.trans hT)
    clear hA hT
    cases B
    · have e2 := HD2.out
      rw [if_neg (by decide)] at e2
      clear HD2
      subst e2
      go_wp2_with fail
      go_ret
      exact ⟨rfl, HA1.out, HT1.out⟩
    · have e2 := HD2.out
      rw [if_pos rfl] at e2
      clear HD2
      subst e2
      obtain ⟨v0, v1, v2, v3, HA, V0, V1, V2, V3⟩ := HA1.out.ex
      obtain ⟨A2, c2, rfl⟩ := Kd.V_slice V2
      have x : w2.cell? ⟨g, 3, none⟩ = some (.slice A2 d1.b.now.length c2) := HA.cell 3
      have X := Aside0.mk x
      have HA_ := Aside0.mk HA
      have HV := Aside0.mk (And.intro V0 (And.intro V1 (And.intro V2 V3)))
      have YB2 := Aside0.mk (V_tn YB.out HBG.out HT1.out)
      clear HA V0 V1 V2 V3
      go_wp2_with fail
      refine start_ (n := 17) (S := fun w' => w'.cell? ⟨g, 3, none⟩ = some (.slice A2 d1.b.now.length c2)) (ds := [16]) (bl 17 0x0) (by kernel_rfl) rfl (by kernel_rfl) (x) (fun hHeld => ?_)
      refine pu 0 (some 27) (bl 17 0x1) ?_
      refine pu 1 (some 28) (bl 17 0x3) ?_
      refine pu 2 (some 29) (bl 17 0x7) ?_
      refine pu 3 (some 30) (bl 17 0xf) ?_
      refine pu 4 (some 31) (bl 17 0x1f) ?_
      refine pu 5 (some 32) (bl 17 0x3f) ?_
      refine pu 6 (some 33) (bl 17 0x7f) ?_
      refine pu 7 (some 34) (bl 17 0xff) ?_
      refine pu 10 (some 37) (bl 17 0x4ff) ?_
      refine pu 12 (some 39) (bl 17 0x14ff) ?_
      refine pu 13 (some 40) (bl 17 0x34ff) ?_
      refine tk 8 (some 35) (bl 17 0x35ff) hHeld ?_
      refine one_ (i := 9) (N := some 36) (bl 17 0x37ff) rfl rfl (by kernel_rfl) (by decide) (fun K hK => ?_)
      refine Kd.R_append_rows_step (Kd.int .u8) (w0 := w2) w2.heap.size (by rfl) _ _ 22 5 (.int .u8 0) 1 rfl Try.underlying22 info5 rfl (by decide) (by decide) (.slice none 0 0) [] d1.b.now A2 d1.b.now.length c2 (fun _ => True) (fun _ => False) rfl rfl (Kd.R_nil _ _ _ _ _) (Kd.V_reads' (Kd.V_below HV.out.2.2.1 (below_drew (Below.refl _ _)))).2.2 (fun _ _ h => h) (fun _ h => h.elim) (fun _ _ => trivial) (below_drew (Below.refl _ _)) (Nat.le_refl _) (by have := HFL.out; simp; omega) ?_
      intro v4 w4 ho4 hb4 hg4 hat4
      rw [List.nil_append] at ho4
      obtain ⟨A4, c4, rfl⟩ := Kd.R_slice ho4
      have HO4 := Aside0.mk ho4
      have HB4 := Aside0.mk hb4
      clear ho4 hb4 hg4 hat4
      refine hK.out _ _ (pw_cell_below HB4.out X.out) (fun hHeld => ?_)
      clear hK K
      refine norm_ (a' := ?_) ?_ ?_
      rotate_left
      · show Act.put _ (some 36) _ = _
        simp only [Act.put, List.setIfInBounds_toArray, List.set_cons_zero, List.set_cons_succ, i64_w, i32_w]
        rfl
      refine one_ (i := 11) (N := some 38) (bl 17 0x3fff) rfl rfl (by kernel_rfl) (by decide) (fun K hK => ?_)
      refine Kd.R_append_rows_step (Kd.int .u8) (w0 := w2) w2.heap.size (by rfl) _ _ 22 5 (.int .u8 0) 1 rfl Try.underlying22 info5 rfl (by decide) (by decide) (.slice A4 d1.b.now.length c4) d1.b.now b B_ b.length cb (fun _ => True) (fun _ => False) rfl rfl HO4.out (Kd.V_reads' (Kd.V_below YB2.out HB4.out)).2.2 (fun _ _ h => h) (fun _ h => h.elim) (fun _ _ => trivial) HB4.out HB4.out.size (by have := HFL.out; have := HBL.out; omega) ?_
      intro v5 w5 ho5 hb5 hg5 hat5
      obtain ⟨zs, hz⟩ : ∃ zs, zs = d1.b.now ++ b := ⟨_, rfl⟩
      rw [← hz] at ho5
      obtain ⟨A5, c5, rfl⟩ := Kd.R_slice ho5
      have HO5 := Aside0.mk ho5
      have HB5 := Aside0.mk hb5
      have HZ := Aside0.mk hz
      clear ho5 hb5 hg5 hat5 hz
      have z4 : w5.frozen? ⟨g, 3, none⟩ = false := (HA_.out.below HB5.out HA1.out.lt).frozen 3
      have x4 : w5.cell? ⟨g, 3, none⟩ = some (.slice A2 d1.b.now.length c2) := pw_cell_below HB5.out X.out
      refine hK.out _ _ (pw_cell_below HB5.out X.out) (fun hHeld => ?_)
      clear hK K
      refine norm_ (a' := ?_) ?_ ?_
      rotate_left
      · show Act.put _ (some 38) _ = _
        simp only [Act.put, List.setIfInBounds_toArray, List.set_cons_zero, List.set_cons_succ, i64_w, i32_w]
        rfl
      refine pu 14 (some 41) (bl 17 0x7fff) ?_
      refine pu 15 (some 42) (bl 17 0xffff) ?_
      refine last_ (i := 16) (N := none) (bl 17 0x1ffff) rfl rfl (by kernel_rfl) (by decide) (fun K hK => ?_)
      refine skip_ (w1 := ?_) (by rfl) rfl ?_ ?_
      rotate_left
      · go_simp
        rfl
      refine hK.out _ _ ?_
      clear hK K
      refine done_ (by kernel_rfl) ?_
      go_wp2_with fail
      have T := (Tn.of_below (g := g) HB5.out).set_own 3 (.slice A5 zs.length c5)
      obtain ⟨V0, V1, V2, V3⟩ := HV.out
      have hn := HA1.out.nok
      have V4 : Vb ok (w5.setCell ⟨g, 3, none⟩ (.slice A5 zs.length c5)) (.slice A5 zs.length c5) zs := V_tn (V_own HO5.out HA1.out.fresh) hn ((Tn.refl g w5).set_own _ _)
      have hz := HZ.out
      subst hz
      go_ret
      exact ⟨rfl, HA1.out.turn T ((HA_.out.below HB5.out HA1.out.lt).set 3 _) (V_tn V0 hn T) (V_tn V1 hn T) V4 (V_tn V3 hn T), HT1.out.trans T⟩
end Go.Proofs.Ytdlfabbhdelinaa.Q
