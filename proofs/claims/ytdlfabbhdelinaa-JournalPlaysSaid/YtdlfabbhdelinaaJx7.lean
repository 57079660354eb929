/- A journal's law of plays, plainly and walked. No condition but those typed. -/
import Derived.Test.YtdlfabbhdelinaaMine
import Derived.Test.YtdlfabbhdelinaaWalk0
import Derived.Test.YtdlfabbhdelinaaDisk09
import Derived.Test.YtdlfabbhdelinaaJx5
import Derived.Test.YtdlfabbhdelinaaJw5
import Derived.Test.YtdlfabbhdelinaaJx3
import Derived.Outline
namespace Go.Proofs.Ytdlfabbhdelinaa.Sh2
open Go.RowKit Go.Proofs.YtdlfabbhdelinaaW.PrintWords Go.Proofs.YtdlfabbhdelinaaW.PrintLast Go.Proofs.YtdlfabbhdelinaaW.PrintMore
set_option linter.unusedVariables false
/-- n signs, true where the number has a bit. -/
def bl (n m : Nat) : Array Bool := ((List.range n).map fun i => m.testBit i).toArray
section
variable {P : Program} {ops : Array Oper} {Q : Exit → Act → World → Prop} {md : Region.Mode} {S : World → Prop} {ds : List Nat}
theorem pu {oi : Oper} {v : Value} {fuel : Nat} {l : Array Bool} {a a' : Act} {w : World} (i : Nat) (N : Option Tmp) (l' : Array Bool)
    (h : wpAnyLast P md ops Q S ds fuel l' a' w)
    (hi : ops[i]? = some oi := by rfl) (hN : oi.dst = N := by rfl) (hc : anyB md ops l l' i = true := by as_aux_lemma => kernel_rfl)
    (hQ : ∀ c a w, Q (.panic c) (a.put oi.dst v) w → Q (.panic c) a w := by exact fun _ _ _ h => h)
    (hy : Yields P ops oi v a := by (refine Or.inl ⟨by rfl, ?_⟩; intro w'; go_simp; with_reducible rfl))
    (ha : a.put N v = a' := by first | (simp only [Act.put, List.setIfInBounds_toArray, List.set_cons_zero, List.set_cons_succ, i64_w, i32_w]; rfl) | rfl) : wpAnyLast P md ops Q S ds (fuel + 1) l a w :=
  pure_ l' hi hN hc hQ hy ha h
theorem po {oi : Oper} {fuel : Nat} {l : Array Bool} {a a' : Act} {w : World} (i : Nat) (N : Option Tmp) (l' : Array Bool)
    (h : wpAnyLast P md ops Q S ds fuel l' a' w)
    (hi : ops[i]? = some oi := by rfl) (hN : oi.dst = N := by rfl) (hc : anyB md ops l l' i = true := by as_aux_lemma => kernel_rfl)
    (hQ : ∀ c a w, Q (.panic c) (a.put oi.dst undef) w → Q (.panic c) a w := by exact fun _ _ _ h => h)
    (hy : Yields P ops oi undef a := by exact Or.inr ⟨by rfl, rfl⟩)
    (ha : a.put N undef = a' := by first | (simp only [Act.put, List.setIfInBounds_toArray, List.set_cons_zero, List.set_cons_succ, i64_w, i32_w]; rfl) | rfl) : wpAnyLast P md ops Q S ds (fuel + 1) l a w :=
  pure_ l' hi hN hc hQ hy ha h
theorem tk {oi : Oper} {v : Value} {fuel : Nat} {l : Array Bool} {a a' : Act} {w : World} (i : Nat) (N : Option Tmp) (l' : Array Bool) (hS : S w)
    (h : wpAnyLast P md ops Q S ds fuel l' a' w)
    (hi : ops[i]? = some oi := by rfl) (hN : oi.dst = N := by rfl) (hc : takeB md ops ds l l' i = true := by as_aux_lemma => kernel_rfl)
    (hQ : ∀ c a w, Q (.panic c) (a.put oi.dst v) w → Q (.panic c) a w := by exact fun _ _ _ h => h)
    (hy : YieldsIf P ops S oi v a := by (refine Or.inl ⟨by rfl, ?_⟩; intro w' hs; (repeat (obtain ⟨_, hs⟩ := hs)); go_simp; with_reducible rfl))
    (ha : a.put N v = a' := by first | (simp only [Act.put, List.setIfInBounds_toArray, List.set_cons_zero, List.set_cons_succ, i64_w, i32_w]; rfl) | rfl) : wpAnyLast P md ops Q S ds (fuel + 1) l a w :=
  take_ l' hi hN hc hQ hy hS ha h
end
end Go.Proofs.Ytdlfabbhdelinaa.Sh2
namespace Go.Proofs.Ytdlfabbhdelinaa.Q
open Go.RowKit Go.Proofs.YtdlfabbhdelinaaW.PrintWords Go.Proofs.YtdlfabbhdelinaaW.PrintLast Go.Proofs.YtdlfabbhdelinaaW.PrintMore
open Go.Proofs.Ytdlfabbhdelinaa.Dk Go.Proofs.Ytdlfabbhdelinaa.Sh2
attribute [local go_sem] max2_int min2_int max_two min_two max_three min_three max_four min_four   -- for this text's walks alone
set_option linter.unusedVariables false
set_option linter.unusedSimpArgs false
set_option maxRecDepth 100000
theorem Bys.nil : Jf.Bys [] := fun x hx => by cases hx
theorem frame_bys {r : List Int} (h : Jf.Bys r) : Jf.Bys (frame r) := ((Jf.be_bys _).app (Jf.be_bys _)).app h
theorem flat_bys {l : List (List Int)} (h : allBys l) : Jf.Bys (flat l) := by
  intro x hx
  unfold flat at hx
  obtain ⟨f, hf, hxf⟩ := List.mem_flatten.1 hx
  obtain ⟨r, hr, rfl⟩ := List.mem_map.1 hf
  exact frame_bys (h r hr) x hxf
theorem by_eq {d d' : D} (h : ByD d) (ha : d'.a.now = d.a.now) (has : d'.a.sure = d.a.sure) (hb : d'.b.now = d.b.now) (hbs : d'.b.sure = d.b.sure) : ByD d' := ⟨ha ▸ h.an, has ▸ h.as_, hb ▸ h.bn, hbs ▸ h.bs⟩
theorem by_act {m : Int} {dof : D → D} (hd : ∀ d, ByD d → ByD (dof d)) {d : D} (h : ByD d) : ByD (actD m dof d) := by
  unfold actD
  split
  · exact h
  split
  · exact hd _ (by_eq h rfl rfl rfl rfl)
  split
  · split
    · exact hd _ (by_eq h rfl rfl rfl rfl)
    · exact by_eq h rfl rfl rfl rfl
  · exact hd _ h
theorem by_gate {d d' : D} {f : Int} (h : ByD d) (h' : ByD d') : ByD (gateD d f d') := by
  unfold gateD
  split
  · exact h
  · exact h'
theorem by_put {d : D} (h : ByD d) (i : Bool) {x : Fl} (h1 : Jf.Bys x.now) (h2 : Jf.Bys x.sure) : ByD (d.put i x) := by
  cases i
  · exact ⟨h1, h2, h.bn, h.bs⟩
  · exact ⟨h.an, h.as_, h1, h2⟩
theorem ByD.sure {d : D} (h : ByD d) (i : Bool) : Jf.Bys (d.fl i).sure := by
  cases i
  · exact h.as_
  · exact h.bs
theorem by_app {d : D} (h : ByD d) (i : Bool) {b : List Int} (hb : Jf.Bys b) : ByD (app i b d) := by_put h i (x := { d.fl i with now := (d.fl i).now ++ b }) ((h.fl i).app hb) (h.sure i)
theorem by_syn {d : D} (h : ByD d) (i : Bool) : ByD (syn i d) := by_put h i (x := ⟨(d.fl i).now, (d.fl i).now, -1⟩) (h.fl i) (h.fl i)
theorem by_tru {d : D} (h : ByD d) (i : Bool) (n : Int) : ByD (tru i n d) := by
  cases i
  · exact ⟨h.an.take _, h.as_, h.bn, h.bs⟩
  · exact ⟨h.an, h.as_, h.bn.take _, h.bs⟩
theorem by_swi {d : D} (h : ByD d) (n : Int) : ByD (swi n d) := ⟨h.an, h.as_, h.bn, h.bs⟩
theorem by_apD {d : D} (h : ByD d) (f : Int) {b : List Int} (hb : Jf.Bys b) : ByD (apD f b d) := by_gate h (by_act (dof := app (bi f) b) (fun d h => by_app h _ hb) h)
theorem by_syD {d : D} (h : ByD d) (f : Int) : ByD (syD f d) := by_gate h (by_act (dof := syn (bi f)) (fun d h => by_syn h _) h)
theorem by_trD {d : D} (h : ByD d) (f n : Int) : ByD (trD f n d) := by_gate h (by_act (dof := tru (bi f) n) (fun d h => by_tru h _ _) h)
theorem by_swD {d : D} (h : ByD d) (f : Int) : ByD (swD f d) := by_gate h (by_act (dof := swi f) (fun d h => by_swi h _) h)
theorem by_tc {d : D} (h : ByD d) (i : Bool) (n : Int) : ByD (tcD i n d) := by
  unfold tcD
  split
  · exact h
  · exact by_syn (by_tru h _ _) _
theorem by_open {d : D} (h : ByD d) (i : Bool) : ByD (openD i d) := by_tc (by_tc h _ _) _ _
theorem by_lostT {f : Fl} {k : Int} {b : List Int} (hb : Jf.Bys b) (h : Jf.Bys f.now) : Jf.Bys (lostT k b f) := hb.app ((h.drop _).take _)
theorem by_lost {f : Fl} (k : Int) (c : Bool) (h : Jf.Bys f.now) (hs : Jf.Bys f.sure) : Jf.Bys (lost k c f).now ∧ Jf.Bys (lost k c f).sure := by
  by_cases h1 : f.cut = -1
  · rw [lost_none h1]
    exact ⟨by_lostT hs h, by_lostT hs h⟩
  · cases c
    · rw [lost_keep h1]
      exact ⟨hs, hs⟩
    · rw [lost_cut h1]
      exact ⟨by_lostT (hs.take _) h, by_lostT (hs.take _) h⟩
theorem by_start {d : D} (h : ByD d) (k0 k1 : Int) (c0 c1 : Bool) : ByD (startD k0 k1 c0 c1 d) := by
  unfold startD
  split
  · have ha := by_lost k0 c0 h.an h.as_
    have hb := by_lost k1 c1 h.bn h.bs
    exact ⟨ha.1, ha.2, hb.1, hb.2⟩
  · exact h
theorem swi_off (n : Int) (d : D) : (swi n d).off = d.off := rfl
theorem sw_off {d : D} {i : Bool} (h : swE (iv i) d ≠ 0) : (swD (iv i) d).off = true := by
  cases ho : d.off
  · have hg := gate_on ho i (actE 0 d) (actD 0 (swi (iv i)) d)
    have h1 : actE 0 d ≠ 0 := fun hh => h (hg.1.trans hh)
    rw [show swD (iv i) d = actD 0 (swi (iv i)) d from hg.2]
    have hf : d.fuse = 0 := by
      unfold actE at h1
      rw [if_neg (by decide)] at h1
      split at h1
      · assumption
      · exact absurd rfl h1
    unfold actD
    rw [if_neg (by decide), if_neg (by omega), if_pos hf]
    split <;> rfl
  · have hg := gate_off ho i (actE 0 d) (actD 0 (swi (iv i)) d)
    rw [show swD (iv i) d = d from hg.2]
    exact ho
theorem sw_root {d : D} {i : Bool} (h : swE (iv i) d = 0) : (swD (iv i) d).root = iv i := by
  cases ho : d.off
  · have hg := gate_on ho i (actE 0 d) (actD 0 (swi (iv i)) d)
    have h1 : actE 0 d = 0 := hg.1.symm.trans h
    rw [show swD (iv i) d = actD 0 (swi (iv i)) d from hg.2]
    have hf : ¬ d.fuse = 0 := fun hh => by
      unfold actE at h1
      rw [if_neg (by decide), if_pos hh] at h1
      cases h1
    unfold actD
    rw [if_neg (by decide)]
    by_cases h3 : 0 < d.fuse
    · rw [if_pos h3]
      rfl
    · rw [if_neg h3, if_neg hf]
      rfl
  · have hg := gate_off ho i (actE 0 d) (actD 0 (swi (iv i)) d)
    rw [show swE (iv i) d = 12 from hg.1] at h
    cases h
theorem sw_any {d : D} {i k : Bool} (hr : d.root = iv k) : ∃ k', (swD (iv i) d).root = iv k' := by
  have h1 : ∀ dd : D, (swi (iv i) dd).root = iv i := fun _ => rfl
  unfold swD gateD
  split
  · exact ⟨k, hr⟩
  · unfold actD
    rw [if_neg (by decide)]
    split
    · exact ⟨i, rfl⟩
    split
    · split
      · exact ⟨i, rfl⟩
      · exact ⟨k, hr⟩
    · exact ⟨i, rfl⟩
/-- What holds at the head of each round. -/
structure PI (n : Nat) (d : D) (j : J) : Prop where
  good : Good d
  on : d.off = false
  root : d.root = iv j.live
  bys : ByD d
  gby : Jf.Bys j.group
  many : 0 ≤ j.many ∧ j.many ≤ 20 * (n : Int)
  grp : j.group.length ≤ 1048576
theorem PI.jk {n : Nat} {d : D} {j : J} (h : PI n d j) (hn : n ≤ 40) : Jk j := ⟨⟨h.many.1, by have := h.many.2; omega⟩, by have := h.grp; omega⟩
/-- What holds behind a call. -/
structure PX (n : Nat) (d : D) (j : J) : Prop where
  good : Good d
  any : ∃ i, d.root = iv i
  root : d.off = false → d.root = iv j.live
  bys : ByD d
  gby : Jf.Bys j.group
  many : 0 ≤ j.many ∧ j.many ≤ 20 * (n : Int)
  grp : j.group.length ≤ 1048576
theorem PI.px {n : Nat} {d : D} {j : J} (h : PI n d j) : PX (n + 1) d j := ⟨h.good, ⟨_, h.root⟩, fun _ => h.root, h.bys, h.gby, ⟨h.many.1, by have := h.many.2; omega⟩, h.grp⟩
theorem PX.pi {n : Nat} {d : D} {j : J} (h : PX n d j) (ho : d.off = false) : PI n d j := ⟨h.good, ho, h.root ho, h.bys, h.gby, h.many, h.grp⟩
theorem PX.arm {n : Nat} {d : D} {j : J} (h : PX n d j) {m : Int} (hm : m < 9223372036854775808) (b : Bool) : PX n (armD m b d) j := ⟨good_arm h.good b hm, h.any, h.root, by_eq h.bys rfl rfl rfl rfl, h.gby, h.many, h.grp⟩
theorem PX.fail {n : Nat} {d : D} {j : J} (h : PX n d j) : PX n (offD d) j := ⟨good_offD h.good, h.any, (fun hh => by cases hh), by_eq h.bys rfl rfl rfl rfl, h.gby, h.many, h.grp⟩
theorem px_sn1 {n : Nat} {d : D} {j : J} (h : PI n d j) {b : List Int} (hb : Jf.Bys b) : (∃ i, (sn1 j.live b d).2.1.root = iv i) ∧ ((sn1 j.live b d).2.1.off = false → (sn1 j.live b d).2.1.root = iv (sn1 j.live b d).2.2) ∧ ByD (sn1 j.live b d).2.1 := by
  have b1 := by_apD h.bys (iv (!j.live)) hb
  have r1 := (apD_root (iv (!j.live)) b d).trans h.root
  unfold sn1
  split
  · exact ⟨⟨_, r1⟩, fun _ => r1, b1⟩
  have b2 := by_syD b1 (iv (!j.live))
  have r2 := (syD_root (iv (!j.live)) _).trans r1
  unfold sn2
  split
  · exact ⟨⟨_, r2⟩, fun _ => r2, b2⟩
  have b3 := by_swD b2 (iv (!j.live))
  unfold sn3
  split
  · rename_i hs
    refine ⟨sw_any r2, fun ho => ?_, b3⟩
    rw [show (swD (iv (!j.live)) (syD (iv (!j.live)) (apD (iv (!j.live)) b d))).off = true from sw_off hs] at ho
    cases ho
  rename_i hs
  have r3 := sw_root (Classical.not_not.1 hs)
  have b4 := by_trD b3 (iv j.live) 0
  have r4 := (trD_root (iv j.live) 0 _).trans r3
  unfold sn5
  split
  · exact ⟨⟨_, r4⟩, fun _ => r4, b4⟩
  · have r5 := (syD_root (iv j.live) _).trans r4
    exact ⟨⟨_, r5⟩, fun _ => r5, by_syD b4 _⟩
theorem px_step {n : Nat} {d : D} {j : J} (h : PI n d j) (a : Ac) (hl : a.recs.length ≤ 20) (hby : allBys a.recs) : PX (n + 1) (dzD a d j) (dzJ a d j) := by
  unfold dzD dzJ
  by_cases h1 : Int.tmod a.kind 7 = 1
  · rw [if_pos h1, if_pos h1]
    have hg := good_comD (j := j) h.good
    unfold comD comJ at *
    by_cases h0 : j.many = 0
    · rw [if_pos h0, if_pos h0]
      exact h.px
    rw [if_neg h0] at hg
    rw [if_neg h0, if_neg h0]
    have b1 := by_apD h.bys (iv j.live) h.gby
    have r1 := (apD_root (iv j.live) j.group d).trans h.root
    have hx := h.px
    by_cases e1 : apE (iv j.live) j.group d ≠ 0
    · rw [if_pos e1] at hg
      rw [if_pos e1, if_pos e1]
      exact ⟨hg, ⟨_, r1⟩, fun _ => r1, b1, hx.gby, hx.many, hx.grp⟩
    rw [if_neg e1] at hg
    rw [if_neg e1, if_neg e1]
    have b2 := by_syD b1 (iv j.live)
    have r2 := (syD_root (iv j.live) _).trans r1
    split
    · exact ⟨hg, ⟨_, r2⟩, fun _ => r2, b2, hx.gby, hx.many, hx.grp⟩
    · exact ⟨hg, ⟨_, r2⟩, fun _ => r2, b2, Bys.nil, ⟨by show (0 : Int) ≤ 0; omega, by show (0 : Int) ≤ _; omega⟩, by show 0 ≤ 1048576; omega⟩
  rw [if_neg h1, if_neg h1]
  by_cases h2 : Int.tmod a.kind 7 = 2
  · rw [if_pos h2, if_pos h2]
    have hx := h.px
    exact ⟨hx.good, hx.any, fun _ => h.root, hx.bys, Bys.nil, ⟨by show (0 : Int) ≤ 0; omega, by show (0 : Int) ≤ _; omega⟩, by show 0 ≤ 1048576; omega⟩
  rw [if_neg h2, if_neg h2]
  by_cases h3 : Int.tmod a.kind 7 = 3
  · rw [if_pos h3, if_pos h3]
    have hg := good_snap (l := a.recs) (j := j) h.good
    have hx := h.px
    by_cases s0 : 0 < j.many
    · rw [show snap a.recs d j = (13, d, j) from if_pos s0]
      exact hx
    by_cases s1 : frsE a.recs 0 d ≠ 0
    · rw [show snap a.recs d j = (frsE a.recs 0 d, d, j) from (if_neg s0).trans (if_pos s1)]
      exact hx
    have e : snap a.recs d j = ((sn1 j.live (flat a.recs) d).1, (sn1 j.live (flat a.recs) d).2.1, ⟨(sn1 j.live (flat a.recs) d).2.2, j.group, j.many⟩) := (if_neg s0).trans (if_neg s1)
    rw [e] at hg ⊢
    have hs := px_sn1 h (flat_bys hby)
    exact ⟨hg, hs.1, hs.2.1, hs.2.2, hx.gby, hx.many, hx.grp⟩
  rw [if_neg h3, if_neg h3]
  by_cases h4 : Int.tmod a.kind 7 = 4
  · rw [if_pos h4, if_pos h4]
    exact h.px
  rw [if_neg h4, if_neg h4]
  by_cases h5 : Int.tmod a.kind 7 = 5
  · rw [if_pos h5, if_pos h5]
    exact h.px
  rw [if_neg h5, if_neg h5]
  by_cases he : frsE a.recs (j.group.length : Int) d = 0
  · rw [show addJ a.recs d j = ⟨j.live, j.group ++ flat a.recs, j.many + a.recs.length⟩ from if_pos he]
    have hb := frs_bound h.good he
    have hm := h.many
    refine ⟨h.good, ⟨_, h.root⟩, fun _ => h.root, h.bys, h.gby.app (flat_bys hby), ⟨?_, ?_⟩, ?_⟩
    · show 0 ≤ j.many + (a.recs.length : Int)
      omega
    · show j.many + (a.recs.length : Int) ≤ 20 * ((n + 1 : Nat) : Int)
      omega
    · show (j.group ++ flat a.recs).length ≤ 1048576
      rw [List.length_append]
      exact hb
  · rw [show addJ a.recs d j = j from if_neg he]
    exact h.px
theorem start_on {d : D} (h : d.off = true) (k0 k1 : Int) (c0 c1 : Bool) : startE d = 0 ∧ (startD k0 k1 c0 c1 d).off = false ∧ (startD k0 k1 c0 c1 d).fuse = -1 ∧ (startD k0 k1 c0 c1 d).root = d.root := by
  unfold startE startD
  rw [if_pos h, if_pos h]
  exact ⟨rfl, rfl, rfl, rfl⟩
theorem good_open {d : D} (h : Good d) (ho : d.off = false) (hz : d.fuse = -1) (i : Bool) : Good (openD i d) := by
  have h1 := tc_off i ((Jr.sz (Jr.scanF (d.fl i).now) : Nat) : Int) d
  have hs := sz_le (d.fl i).now
  exact good_tc (good_tc h ho hz i (Int.natCast_nonneg _) (by omega)) (h1.1.trans ho) (h1.2.1.trans hz) (!i) (by decide) (Int.natCast_nonneg _)
theorem pi_open {n : Nat} {d : D} (hg : Good d) (ho : d.off = false) (hz : d.fuse = -1) {i : Bool} (hr : d.root = iv i) (hby : ByD d) : PI n (openD i d) ⟨i, [], 0⟩ := by
  have h1 := tc_off i ((Jr.sz (Jr.scanF (d.fl i).now) : Nat) : Int) d
  have h2 := tc_off (!i) 0 (tcD i ((Jr.sz (Jr.scanF (d.fl i).now) : Nat) : Int) d)
  exact ⟨good_open hg ho hz i, h2.1.trans (h1.1.trans ho), h2.2.2.trans (h1.2.2.trans hr), by_open hby i, Bys.nil, ⟨by show (0 : Int) ≤ 0; omega, by show (0 : Int) ≤ _; omega⟩, by show 0 ≤ 1048576; omega⟩
theorem Jn.away {S T T' : Nat → Prop} {g jb : Nat} {d : D} {j : J} {W W1 : World} (h : Jn S g jb d j W) (m : Mv T T' W W1) (hd : ∀ k, S k → T k → False) : Jn S g jb d j W1 := by
  obtain ⟨ok, gv, h⟩ := h
  have hk : ∀ k, S k → W1.heap[k]? = W.heap[k]? := fun k hk => m.keep k (h.lim k hk) (fun hs => hd k hk hs)
  refine ⟨fun k => ok k ∧ (k < W.heap.size ∨ W1.heap.size ≤ k), gv, at_apart h.at_ m.size (hk g h.sg) (fun k hk2 hl => hk k (h.ok_ k hk2 hl)), fun k hk hl => h.ok_ k hk.1 (hk.2.elim id (fun hh => by omega)), (hk jb h.sj).trans h.blk, ?_, fun k hk => ⟨(h.far k hk).1, fun hh => (h.far k hk).2.1 hh.1, (h.far k hk).2.2⟩, fun hh => h.nj hh.1, h.sg, h.sj, h.ne, fun k hk => Nat.lt_of_lt_of_le (h.lim k hk) m.size⟩
  have hR := Kd.R_of_own (base := 0) (enc := Value.int .u8) (h1 := fun _ => rfl) h.grp (ok := fun k => S k) (fun k hk => (h.far k hk).1)
  exact Kd.own_of_R (Kd.R_step hR (w1 := W1) (fun k hk2 hl => hk k hk2))
theorem Jn.lim {S : Nat → Prop} {g jb : Nat} {d : D} {j : J} {W : World} (h : Jn S g jb d j W) : ∀ k, S k → k < W.heap.size := by
  obtain ⟨ok, gv, h⟩ := h
  exact h.lim
theorem Rn.lim {T : Nat → Prop} {g kb : Nat} {d : D} {j : J} {W : World} (h : Rn T g kb d j W) : ∀ k, T k → k < W.heap.size := by
  obtain ⟨ok, gv, h⟩ := h
  exact h.lim
theorem Rj.r8 {ok : Nat → Prop} {gv : Value} {T : Nat → Prop} {g kb : Nat} {d : D} {j : J} {W : World} (h : Rj ok gv T g kb d j W) : W.cell? ⟨g, 8, none⟩ = some (.bool d.off) := by
  obtain ⟨v0, v1, v2, v3, HA, _⟩ := h.at_.ex
  exact HA.cell 8
theorem dz_45 {a : Ac} {d : D} {j : J} (h : Int.tmod a.kind 7 = 4 ∨ Int.tmod a.kind 7 = 5) : dzD a d j = d ∧ dzJ a d j = j := by
  unfold dzD dzJ
  rcases h with h | h <;> rw [h] <;> exact ⟨rfl, rfl⟩
theorem fl_same2 {d d' : D} (ha : d'.a = d.a) (hb : d'.b = d.b) : d'.a.now = d.a.now ∧ d'.a.sure = d.a.sure ∧ d'.b.now = d.b.now ∧ d'.b.sure = d.b.sure := by rw [ha, hb]; exact ⟨rfl, rfl, rfl, rfl⟩
theorem Rn.store2 {T : Nat → Prop} {g kb : Nat} {d d' : D} {j : J} {W : World} (h : Rn T g kb d j W) (i1 i2 : Nat) (x1 x2 : Value) (ha : d'.a = d.a) (hb : d'.b = d.b) (hc : ∀ v0 v1 v2 v3, ((cells v0 v1 v2 v3 d).setIfInBounds i1 x1).setIfInBounds i2 x2 = cells v0 v1 v2 v3 d') :
    ∃ T', Rn T' g kb d' j ((W.setCell ⟨g, i1, none⟩ x1).setCell ⟨g, i2, none⟩ x2) ∧ Mv T T' W ((W.setCell ⟨g, i1, none⟩ x1).setCell ⟨g, i2, none⟩ x2) := by
  obtain ⟨ok, gv, h⟩ := h
  have hT := ((Tn.refl g W).set_own i1 x1).set_own i2 x2
  obtain ⟨v0, v1, v2, v3, HA, V0, V1, V2, V3⟩ := h.at_.ex
  have hA2 := (HA.set i1 x1).set i2 x2
  rw [hc] at hA2
  have hs := fl_same2 ha hb
  have hn := h.at_.nok
  have hAt := h.at_.turn (d' := d') hT hA2 (by rw [hs.1]; exact V_tn V0 hn hT) (by rw [hs.2.1]; exact V_tn V1 hn hT) (by rw [hs.2.2.1]; exact V_tn V2 hn hT) (by rw [hs.2.2.2]; exact V_tn V3 hn hT)
  exact ⟨_, ⟨ok, gv, h.tn hT hAt⟩, Mv.of_tn hT h.sg⟩
theorem Rn.c8 {T : Nat → Prop} {g kb : Nat} {d : D} {j : J} {W : World} (h : Rn T g kb d j W) : ∃ A0 c0 A2 c2, W.cell? ⟨g, 0, none⟩ = some (.slice A0 d.a.now.length c0) ∧ W.cell? ⟨g, 3, none⟩ = some (.slice A2 d.b.now.length c2) ∧ W.cell? ⟨g, 6, none⟩ = some (.int .i64 d.root) ∧
    (Kd.int .u8).C W A0 d.a.now.length d.a.now ∧ (Kd.int .u8).C W A2 d.b.now.length d.b.now := by
  obtain ⟨ok, gv, h⟩ := h
  obtain ⟨v0, v1, v2, v3, HA, V0, V1, V2, V3⟩ := h.at_.ex
  obtain ⟨A0, c0, rfl⟩ := Kd.V_slice V0
  obtain ⟨A2, c2, rfl⟩ := Kd.V_slice V2
  exact ⟨A0, c0, A2, c2, HA.cell 0, HA.cell 3, HA.cell 6, (Kd.V_reads' V0).2.2, (Kd.V_reads' V2).2.2⟩
theorem Rn.cw {T : Nat → Prop} {g kb : Nat} {d : D} {j : J} {W : World} (h : Rn T g kb d j W) : ∃ o f b, W.cell? ⟨g, 8, none⟩ = some o ∧ W.cell? ⟨g, 9, none⟩ = some f ∧ W.cell? ⟨g, 10, none⟩ = some b ∧ W.frozen? ⟨g, 8, none⟩ = false ∧ W.frozen? ⟨g, 9, none⟩ = false ∧ W.frozen? ⟨g, 10, none⟩ = false := by
  obtain ⟨ok, gv, h⟩ := h
  obtain ⟨v0, v1, v2, v3, HA, _⟩ := h.at_.ex
  exact ⟨_, _, _, HA.cell 8, HA.cell 9, HA.cell 10, HA.frozen 8, HA.frozen 9, HA.frozen 10⟩
theorem Rj.reset {ok : Nat → Prop} {gv : Value} {T : Nat → Prop} {g kb : Nat} {d : D} {j : J} {W : World} (h : Rj ok gv T g kb d j W) (i : Bool) : Rj ok (.slice none 0 0) T g kb d ⟨i, [], 0⟩ (((W.setCell ⟨kb, 0, none⟩ (.pointer (some ⟨g, 0, none⟩))).setCell ⟨kb, 1, none⟩ (.slice none 0 0)).setCell ⟨kb, 2, none⟩ (.int .i64 0)) := by
  have h0 : Rj ok gv T g kb d j (W.setCell ⟨kb, 0, none⟩ (.pointer (some ⟨g, 0, none⟩))) :=
    ⟨h.at_.far h.ne h.nk _, fun k hk hl => h.ok_ k hk (by simpa [World.setCell] using hl), h.blk.set 0 _, V_tn h.view h.nk ((Tn.refl kb W).set_own 0 _), h.nk, h.sg, h.sk, h.ne, fun k hk => by simpa [World.setCell] using h.lim k hk⟩
  exact (((h0.setGroup (v := .slice none 0 0) (x := []) (Kd.V_nil _ _ _ _ _)).setMany 0).relive i)
/-- Both machines, side by side. -/
structure PJ (B : Nat) (S T : Nat → Prop) (g jb g2 kb : Nat) (d : D) (j : J) (d2 : D) (j2 : J) (W : World) : Prop where
  jn : Jn S g jb d j W
  rn : Rn T g2 kb d2 j2 W
  ds : ∀ k, S k → T k → False
  sb : ∀ k, S k → B ≤ k
  tb : ∀ k, T k → B ≤ k
namespace PJ
variable {B : Nat} {S T S' T' : Nat → Prop} {g jb g2 kb jb' : Nat} {d d2 d' : D} {j j2 j' : J} {W W1 w0 : World}
theorem below (h : PJ B S T g jb g2 kb d j d2 j2 W) (hb : Below W.heap.size W W1) : PJ B S T g jb g2 kb d j d2 j2 W1 := ⟨h.jn.below hb, h.rn.below hb, h.ds, h.sb, h.tb⟩
theorem one (h : PJ B S T g jb g2 kb d j d2 j2 W) (hB : B ≤ W.heap.size) (m : Mv S S' W W1) (hj : Jn S' g jb' d' j' W1) : PJ B S' T g jb' g2 kb d' j' d2 j2 W1 :=
  ⟨hj, h.rn.back m h.ds, fun k hs ht => (m.grow k hs).elim (fun x => h.ds k x ht) (fun x => by have := h.rn.lim k ht; omega), m.above h.sb hB, h.tb⟩
theorem two (h : PJ B S T g jb g2 kb d j d2 j2 W) (hB : B ≤ W.heap.size) (m : Mv T T' W W1) (hr : Rn T' g2 kb d' j' W1) : PJ B S T' g jb g2 kb d j d' j' W1 :=
  ⟨h.jn.away m h.ds, hr, fun k hs ht => (m.grow k ht).elim (fun x => h.ds k hs x) (fun x => by have := h.jn.lim k hs; omega), h.sb, m.above h.tb hB⟩
theorem base1 (h : PJ B S T g jb g2 kb d j d2 j2 W) (hB : B ≤ W.heap.size) (m : Mv S S' W W1) (hb : Below B w0 W) : Below B w0 W1 := m.base hb h.sb hB
theorem base2 (h : PJ B S T g jb g2 kb d j d2 j2 W) (hB : B ≤ W.heap.size) (m : Mv T T' W W1) (hb : Below B w0 W) : Below B w0 W1 := m.base hb h.tb hB
end PJ
theorem jNew.bad {room : Int} (h : room < 1 ∨ 1048576 < room) (w : World) :
    Calls Try.prog 14 #[.int .i64 room] w fun e w' => e = .returned (.tuple #[.pointer none, .int .i64 1]) ∧ w' = w := by
  by_cases h0 : room < 1
  · have b0 : decide (room < 1) = true := decide_eq_true h0
    clear h h0
    go_enter Try.func14, Try.ntmps14
    go_wp2_with fail
    go_ret2
    exact ⟨rfl, rfl⟩
  · have b0 : decide (room < 1) = false := decide_eq_false h0
    have b1 : decide (1048576 < room) = true := decide_eq_true (by omega)
    clear h h0
    go_enter Try.func14, Try.ntmps14
    go_wp2_with fail
    go_ret2
    exact ⟨rfl, rfl⟩
theorem scan_nine (b : List Int) : 9 * (Jr.scanF b).length ≤ b.length := by
  obtain ⟨n, hn⟩ : ∃ n, n = b.length := ⟨_, rfl⟩
  rw [← hn]
  induction n using Nat.strongRecOn generalizing b with
  | _ n ih =>
    cases h : (Jr.nextR b).2
    · rw [Jr.scan_no h]; exact Nat.zero_le _
    · have hl := Jr.next_len h
      rw [Jr.scan_yes h, List.length_cons]
      have := ih (n - (8 + (Jr.nextR b).1.length)) (by omega) (b.drop (8 + (Jr.nextR b).1.length)) (by rw [List.length_drop]; omega)
      omega
theorem scan_most {b : List Int} (h : b.length ≤ 1048576) : (Jr.scanF b).length ≤ 1000000 := by
  have := scan_nine b
  omega
/-- The document's machine, when its journal is opened. -/
theorem Rn.mk {ok S : Nat → Prop} {B g2 : Nat} {d : D} {W : World} (i : Bool) (h : Dr.At g2 ok d W) (hS : ∀ k, ok k → S k → False) (hg : ¬ S g2) (hl : ∀ k, S k → k < W.heap.size) (hB : ∀ k, ok k → B ≤ k) (hgB : B ≤ g2) (hBW : B ≤ W.heap.size) :
    Rn (fun k => B ≤ k ∧ k < (W.alloc (.cells #[.pointer (some ⟨g2, 0, none⟩), .slice none 0 0, .int .i64 0] 70)).heap.size ∧ ¬ S k) g2 W.heap.size d ⟨i, [], 0⟩ (W.alloc (.cells #[.pointer (some ⟨g2, 0, none⟩), .slice none 0 0, .int .i64 0] 70)) := by
  have hb := below_alloc (Below.refl _ W) (.cells #[.pointer (some ⟨g2, 0, none⟩), .slice none 0 0, .int .i64 0] 70)
  have hs : (W.alloc (.cells #[.pointer (some ⟨g2, 0, none⟩), .slice none 0 0, .int .i64 0] 70)).heap.size = W.heap.size + 1 := size_alloc _ _
  have hlt := h.lt
  refine ⟨_, .slice none 0 0, h.skip hb, fun k hk hl2 => ⟨hB k hk.1, hl2, fun hh => hS k hk.1 hh⟩, Blk.At.new W _ 70, Kd.V_nil _ _ _ _ _, fun hh => by have := hh.2; omega, ⟨hgB, by omega, hg⟩, ⟨hBW, by omega, fun hh => by have := hl _ hh; omega⟩, fun e => by omega, fun k hk => hk.2.1⟩
/-- The document's disk, new in its block. -/
theorem r_new (W : World) (room : Int) : Dr.At W.heap.size (fun k => W.heap.size < k) (newD room) (W.alloc (.cells (cells (.slice none 0 0) (.slice none 0 0) (.slice none 0 0) (.slice none 0 0) (newD room)) 65)) :=
  ⟨fun h => absurd h (by omega), fun k hk => by rw [size_alloc] at hk; omega, _, _, _, _, Blk.At.new W _ 65, Kd.V_nil _ _ _ _ _, Kd.V_nil _ _ _ _ _, Kd.V_nil _ _ _ _ _, Kd.V_nil _ _ _ _ _⟩
theorem by_new (room : Int) : ByD (newD room) := ⟨Bys.nil, Bys.nil, Bys.nil, Bys.nil⟩
section
attribute [-go_sem] max2_int min2_int
attribute [local go_sem] max_mx min_mn
set_option maxHeartbeats 16000000 in
theorem law_Plays.calls {w : World} {room : Int} {A : Option Addr} {c : Nat} {l : List Ac} (hC : dA.C w A l.length l) (hc : l.length ≤ c) (hn : ∀ a ∈ l, a.n < 9223372036854775808) (hby : ∀ a ∈ l, allBys a.recs) :
    Calls Try.prog 7 #[.int .i64 room, .slice A l.length c] w fun e w' => e = .returned (.bool true) ∧ Below w.heap.size w w' := by
  have HC := Aside0.mk hC
  have HCC := Aside0.mk hc
  have HNB := Aside0.mk hn
  have HBY := Aside0.mk hby
  clear hC hc hn hby
  by_cases hroom : room < 1 ∨ 1048576 < room
  · have HN1 := Aside0.mk (jNew.bad hroom w)
    have HN2 := Aside0.mk (rNew.bad hroom w)
    clear hroom
    go_enter Try.func7, Try.ntmps7
    go_wp2_with fail
    refine HN1.out.mono ?_
    rintro e w1 ⟨rfl, rfl⟩
    go_wp2_with fail
    refine HN2.out.mono ?_
    rintro e w2 ⟨rfl, hb⟩
    have HB2 := Aside0.mk hb
    clear hb HN2
    go_wp2_with fail
    have HB3 := Aside0.mk (HB2.out.trans (below_alloc (Below.refl w2.heap.size w2) (.cells #[.slice none 0 0, .slice none 0 0, .int .i64 0, .slice none 0 0, .slice none 0 0, .int .i64 0, .int .i64 0, .int .i64 0, .bool false, .int .i64 0, .bool false] 65) |>.mono HB2.out.size))
    refine (law_alive.calls _).mono ?_
    rintro e w3 ⟨rfl, hB⟩
    have HB4 := Aside0.mk (HB3.out.trans (hB.mono HB3.out.size))
    clear hB
    go_wp2_with fail
    go_ret
    exact ⟨rfl, HB4.out⟩
  have HRM := Aside0.mk (show 1 ≤ room ∧ room ≤ 1048576 by omega)
  clear hroom
  go_enter Try.func7, Try.ntmps7
  go_wp2_with fail
  refine (disk_New.calls HRM.out.1 HRM.out.2 (fun k => w.heap.size < k) (by omega) (fun _ hk => hk)).mono ?_
  rintro e w1 ⟨rfl, hA, hB⟩
  have hD := Dn.new (B := 0) hA hB
  obtain ⟨g, hg⟩ : ∃ g, g = w.heap.size := ⟨_, rfl⟩
  have HGE := Aside0.mk hg
  rw [← hg] at hD ⊢
  have HD1 := Aside0.mk hD.1
  have HB1 := Aside0.mk hB
  clear hA hB hg hD
  go_wp2_with fail
  refine (rNew.good HRM.out.1 HRM.out.2 w1).mono ?_
  rintro e w2 ⟨rfl, hb⟩
  have HD2 := Aside0.mk (HD1.out.below hb)
  have HB2 := Aside0.mk (HB1.out.trans (hb.mono HB1.out.size))
  have HR2 := Aside0.mk (r_new w2 room)
  have H12 := Aside0.mk hb.size
  clear hb HD1 HB1
  go_wp2_with fail
  obtain ⟨w3, hw3⟩ : ∃ w3, w3 = w2.alloc (.cells (cells (.slice none 0 0) (.slice none 0 0) (.slice none 0 0) (.slice none 0 0) (newD room)) 65) := ⟨_, rfl⟩
  have hcl : (cells (.slice none 0 0) (.slice none 0 0) (.slice none 0 0) (.slice none 0 0) (newD room)) = #[.slice none 0 0, .slice none 0 0, .int .i64 (-1), .slice none 0 0, .slice none 0 0, .int .i64 (-1), .int .i64 0, .int .i64 room, .bool false, .int .i64 (-1), .bool false] := rfl
  have hb3 : Below w2.heap.size w2 w3 := by rw [hw3]; exact below_alloc (Below.refl _ _) _
  rw [← hw3] at HR2
  rw [hcl] at hw3
  rw [← hw3]
  have HD3 := Aside0.mk (HD2.out.below hb3)
  have HB3 := Aside0.mk (HB2.out.trans (hb3.mono HB2.out.size))
  have HG2E := Aside0.mk (show ∀ k, (g ≤ k ∧ k < w1.heap.size) → k ≠ w2.heap.size from fun k hk e => by have := HD2.out.lim k hk; omega)
  have HG2L := Aside0.mk (show w.heap.size ≤ w2.heap.size from HB2.out.size)
  have HG2N := Aside0.mk (show ∀ k, (g ≤ k ∧ k < w1.heap.size) → ¬ (w2.heap.size < k) from fun k hk h2 => by have := H12.out; have := hk.2; omega)
  clear hw3 hcl hb3 HD2 HB2
  have HFAR := Aside0.mk (law_far.calls (Kd.C_below HC.out HB3.out) HCC.out)
  refine HFAR.out.mono ?_
  rintro e w4 ⟨bf, rfl, hB, hbf⟩
  have HD4 := Aside0.mk (HD3.out.below hB)
  have HB4 := Aside0.mk (HB3.out.trans (hB.mono HB3.out.size))
  have HR4 := Aside0.mk (HR2.out.below hB)
  have HBF := Aside0.mk hbf
  clear hB HD3 HB3 hbf HR2 HFAR
  cases bf
  case true =>
    go_wp2_with fail
    refine (law_alive.calls _).mono ?_
    rintro e w5 ⟨rfl, hB⟩
    have HB5 := Aside0.mk (HB4.out.trans (hB.mono HB4.out.size))
    clear hB
    go_wp2_with fail
    go_ret
    exact ⟨rfl, HB5.out⟩
  have HSM := Aside0.mk (HBF.out rfl)
  have hOP := jOpen.calls HD4.out (good_new HRM.out.1 HRM.out.2) rfl rfl false rfl
  obtain ⟨ms, hms⟩ : ∃ ms, ms = sh l.length := ⟨_, rfl⟩
  have HMS := Aside0.mk (show ms ≤ l.length ∧ ms ≤ 40 from by rw [hms]; unfold sh; split <;> omega)
  have HS := Aside0.mk (law_short.calls (A := A) HCC.out)
  rw [← hms] at HS HSM
  have HOP := Aside0.mk hOP
  clear hms hOP HBF
  go_wp2_with fail
  refine HOP.out.mono ?_
  rintro e w5 ⟨jb, Ao, co, S5, rfl, hJ, hM, hR⟩
  have HJ5 := Aside0.mk hJ
  have HS5 := Aside0.mk (show ∀ k, S5 k → w.heap.size ≤ k from hM.above (fun k hk => by rw [← HGE.out]; exact hk.1) HB4.out.size)
  have HB5 := Aside0.mk (hM.base HB4.out (fun k hk => by rw [← HGE.out]; exact hk.1) HB4.out.size)
  have hg2 : w2.heap.size < w4.heap.size := HR4.out.lt
  have hRA := HR4.out.apart hM.size (hM.keep _ hg2 (fun hs => HG2E.out _ hs rfl)) (fun k hk hl => hM.keep k hl (fun hs => by have h1 := HD4.out.lim k hs; exact HG2N.out k hs hk))
  have HR5 := Aside0.mk hRA
  have HOK5 := Aside0.mk (show ∀ k, (w2.heap.size < k ∧ (k < w4.heap.size ∨ w5.heap.size ≤ k)) → S5 k → False from fun k hk hs => by
    rcases hM.grow k hs with h4 | h4
    · exact HG2N.out k h4 hk.1
    · have h5 := hJ.lim k hs
      have := hk.2
      omega)
  have HNG := Aside0.mk (show ¬ S5 w2.heap.size from fun hs => (hM.grow _ hs).elim (fun h4 => HG2E.out _ h4 rfl) (fun h4 => by omega))
  have HW5 := Aside0.mk (show w2.heap.size < w5.heap.size from Nat.lt_of_lt_of_le hg2 hM.size)
  have HRO := Aside0.mk (rOpen.calls hRA (good_new HRM.out.1 HRM.out.2) rfl rfl false rfl (by_new room))
  obtain ⟨d0, hd0⟩ : ∃ d0, d0 = openD false (newD room) := ⟨_, rfl⟩
  have HPI := Aside0.mk (show PI 0 d0 ⟨false, [], 0⟩ by rw [hd0]; exact pi_open (good_new HRM.out.1 HRM.out.2) rfl rfl rfl (by_new room))
  rw [← hd0] at HRO HJ5
  clear hJ hM hR HOP HD4 HB4 hg2 hRA hd0 HR4
  go_wp2_with fail
  refine HRO.out.mono ?_
  rintro e w6 ⟨A6, c6, rfl, hA, hT, hR⟩
  have HA6 := Aside0.mk hA
  have hmv := Mv.of_tn (S := fun k => k = w2.heap.size) hT rfl
  have HJ6 := Aside0.mk (HJ5.out.away hmv (fun k hs e => HNG.out (e ▸ hs)))
  have HB6 := Aside0.mk (hT.base HB5.out HG2L.out HB5.out.size)
  have HW6 := Aside0.mk hT.size
  clear hA hT hR hmv HRO HB5
  go_wp2_with fail
  obtain ⟨w7, hw7⟩ : ∃ w7, w7 = w6.alloc (.cells #[.pointer (some ⟨w2.heap.size, 0, none⟩), .slice none 0 0, .int .i64 0] 70) := ⟨_, rfl⟩
  have hrn := Rn.mk (B := w.heap.size) (S := S5) false HA6.out HOK5.out HNG.out (fun k hs => Nat.lt_of_lt_of_le (HJ5.out.lim k hs) HW6.out) (fun k hk => by have := HG2L.out; have := hk.1; omega) HG2L.out HB6.out.size
  have hb7 : Below w6.heap.size w6 w7 := by rw [hw7]; exact below_alloc (Below.refl _ _) _
  rw [← hw7] at hrn ⊢
  have HPJ := Aside0.mk (show PJ w.heap.size S5 _ g jb w2.heap.size w6.heap.size d0 ⟨false, [], 0⟩ d0 ⟨false, [], 0⟩ w7 from ⟨HJ6.out.below hb7, hrn, fun k hs ht => ht.2.2 hs, HS5.out, fun k ht => ht.1⟩)
  have HB7 := Aside0.mk (HB6.out.trans (hb7.mono HB6.out.size))
  clear hrn hb7 hw7 HJ6 HB6 HA6
  refine (HS.out _).mono ?_
  rintro e w8 ⟨rfl, rfl⟩
  go_wp2_with fail
  obtain ⟨g2, hg2⟩ : ∃ g2, g2 = w2.heap.size := ⟨_, rfl⟩
  obtain ⟨kb, hkb⟩ : ∃ kb, kb = w6.heap.size := ⟨_, rfl⟩
  rw [← hg2, ← hkb] at HPJ ⊢
  clear hg2 hkb HJ5 HR5 HOK5 HNG HW5 HW6
  go_loopw [9, 73] (fun vj vi wr => ∃ (n jb : Nat), n ≤ ms ∧ vj = .pointer (some ⟨jb, 0, none⟩) ∧ vi = .int .i64 n ∧ (∃ d jj S T, Aside0 (PI n d jj ∧ PJ w.heap.size S T g jb g2 kb d jj d jj wr)) ∧ Aside0 (Below w.heap.size w wr)) (fun _ vi _ => ms - (intOf vi).toNat)
  case atStart => exact ⟨0, jb, Nat.zero_le _, rfl, rfl, ⟨_, _, _, _, ⟨HPI.out, HPJ.out⟩⟩, HB7⟩
  case round =>
    clear HPJ HB7 HPI HS5
    obtain ⟨n, jb, hn, rfl, rfl, ⟨d, jj, S, T, HA⟩, HB⟩ := hrel
    have HPI := Aside0.mk HA.out.1
    have HPJ0 := Aside0.mk HA.out.2
    clear HA
    by_cases hlt : n < ms
    case neg =>
      obtain rfl : n = ms := by omega
      go_wp2_with fail
      refine (law_alive.calls _).mono ?_
      rintro e w9 ⟨rfl, hB⟩
      have HB9 := Aside0.mk (HB.out.trans (hB.mono HB.out.size))
      clear hB
      go_wp2_with fail
      go_ret
      exact ⟨rfl, HB9.out⟩
    have hl : n < l.length := by have := HMS.out; omega
    obtain ⟨ad, Ra, ca, k0, k1, c0, c1, rfl, hbx, hbC, hk, hcs, hx⟩ := script_at HC.out hl
    have H20 := Aside0.mk (HSM.out.1 l[n] (List.mem_take_iff_getElem.2 ⟨n, by omega, rfl⟩))
    have HAN := Aside0.mk (HNB.out l[n] (List.getElem_mem hl))
    have HAB := Aside0.mk (HBY.out l[n] (List.getElem_mem hl))
    generalize l[n] = a at hbx hbC hk hcs hx H20 HAN HAB
    obtain ⟨X, hX⟩ : ∃ X, X = ad.add (n * 8) := ⟨_, rfl⟩
    have hXe : ad.add (n * 8) = X := hX.symm
    rw [hXe] at hx
    clear hX
    have hx0 : wr.cell? X = some (.int .u8 a.kind) := pw_cell_below HB.out (hx 0 _ rfl)
    have hx1 : wr.cell? ⟨X.block, X.off + 1, none⟩ = some (.slice Ra a.recs.length ca) := pw_cell_below HB.out (hx 1 _ rfl)
    have hx2 : wr.cell? ⟨X.block, X.off + 2, none⟩ = some (.int .i64 a.n) := pw_cell_below HB.out (hx 2 _ rfl)
    have hx3 : wr.cell? ⟨X.block, X.off + 3, none⟩ = some (.bool a.behind) := pw_cell_below HB.out (hx 3 _ rfl)
    have hx4 : wr.cell? ⟨X.block, X.off + 4, none⟩ = some (.int .i64 k0) := pw_cell_below HB.out (hx 4 _ rfl)
    have hx5 : wr.cell? ⟨X.block, X.off + 5, none⟩ = some (.int .i64 k1) := pw_cell_below HB.out (hx 5 _ rfl)
    have hx6 : wr.cell? ⟨X.block, X.off + 6, none⟩ = some (.bool c0) := pw_cell_below HB.out (hx 6 _ rfl)
    have hx7 : wr.cell? ⟨X.block, X.off + 7, none⟩ = some (.bool c1) := pw_cell_below HB.out (hx 7 _ rfl)
    have HCR := Aside0.mk (Kd.C_below hbC HB.out)
    have hb1 := below_alloc (Below.refl _ wr) (.cells #[.int .u8 a.kind, .slice Ra a.recs.length ca, .int .i64 a.n, .bool a.behind, .int .i64 k0, .int .i64 k1, .bool c0, .bool c1] 46)
    have HPJ1 := Aside0.mk (HPJ0.out.below hb1)
    have HB1 := Aside0.mk (HB.out.trans (hb1.mono HB.out.size))
    have HQ1 := Aside0.mk (Blk.At.new wr #[.int .u8 a.kind, .slice Ra a.recs.length ca, .int .i64 a.n, .bool a.behind, .int .i64 k0, .int .i64 k1, .bool c0, .bool c1] 46)
    have HQS := Aside0.mk (show ¬ S wr.heap.size ∧ ¬ T wr.heap.size from ⟨fun h => by have := HPJ0.out.jn.lim _ h; omega, fun h => by have := HPJ0.out.rn.lim _ h; omega⟩)
    have en : wrap64 ((n : Int) + 1) = ((n + 1 : Nat) : Int) := w64n (by have := HMS.out; omega)
    obtain ⟨z, hz⟩ : ∃ z, z = Int.tmod a.kind 7 := ⟨_, rfl⟩
    have hzc : Int.tmod a.kind 7 = z := hz.symm
    have HZ := Aside0.mk hz
    have HPX := Aside0.mk (px_step HPI.out a H20.out HAB.out)
    have HJK := Aside0.mk (HPI.out.jk (by have := HMS.out; omega))
    have HGD := Aside0.mk HPI.out.good
    have HRT := Aside0.mk HPI.out.root
    have HON0 := Aside0.mk HPI.out.on
    obtain ⟨Wa, hWa⟩ : ∃ Wa, Wa = wr.alloc (.cells #[.int .u8 a.kind, .slice Ra a.recs.length ca, .int .i64 a.n, .bool a.behind, .int .i64 k0, .int .i64 k1, .bool c0, .bool c1] 46) := ⟨_, rfl⟩
    have hdo : Calls Try.prog 28 #[.pointer (some ⟨jb, 0, none⟩), .agg #[.int .u8 a.kind, .slice Ra a.recs.length ca, .int .i64 a.n, .bool a.behind, .int .i64 k0, .int .i64 k1, .bool c0, .bool c1]] (wr.alloc (.cells #[.int .u8 a.kind, .slice Ra a.recs.length ca, .int .i64 a.n, .bool a.behind, .int .i64 k0, .int .i64 k1, .bool c0, .bool c1] 46)).drew fun e w' => e = .returned (.int .i64 (dzE a d jj)) ∧ ∃ S', Jn S' g jb (dzD a d jj) (dzJ a d jj) w' ∧ Mv S S' (wr.alloc (.cells #[.int .u8 a.kind, .slice Ra a.recs.length ca, .int .i64 a.n, .bool a.behind, .int .i64 k0, .int .i64 k1, .bool c0, .bool c1] 46)).drew w' :=
      law_does.calls (HPJ1.out.jn.below (below_drew (Below.refl _ _))) HGD.out HJK.out a Ra ca k0 k1 c0 c1 (Kd.C_below (Kd.C_below HCR.out hb1) (below_drew (Below.refl _ _))) H20.out
    have hwo : ∀ (T' : Nat → Prop) (W : World), Rn T' g2 kb d jj W → Below wr.heap.size wr W ∨ (Kd.slice 5 (Kd.int .u8)).C W Ra a.recs.length a.recs → (Kd.slice 5 (Kd.int .u8)).C W Ra a.recs.length a.recs → Calls Try.prog 32 #[.pointer (some ⟨kb, 0, none⟩), .agg #[.int .u8 a.kind, .slice Ra a.recs.length ca, .int .i64 a.n, .bool a.behind, .int .i64 k0, .int .i64 k1, .bool c0, .bool c1]] W fun e w' => e = .returned (.int .i64 (dzE a d jj)) ∧ ∃ T2, Rn T2 g2 kb (dzD a d jj) (dzJ a d jj) w' ∧ Mv T' T2 W w' :=
      fun T' W hr _ hc => would.calls hr HGD.out HJK.out HRT.out a Ra ca k0 k1 c0 c1 hc H20.out HAB.out
    have HCRb := Aside0.mk (show ∀ W, Below w.heap.size w W → (Kd.slice 5 (Kd.int .u8)).C W Ra a.recs.length a.recs from fun W hW => Kd.C_below hbC hW)
    obtain ⟨E, hE⟩ : ∃ E, E = dzE a d jj := ⟨_, rfl⟩
    obtain ⟨D2, hD2⟩ : ∃ D2, D2 = dzD a d jj := ⟨_, rfl⟩
    obtain ⟨J2, hJ2⟩ : ∃ J2, J2 = dzJ a d jj := ⟨_, rfl⟩
    have H45 := Aside0.mk (show (z = 4 ∨ z = 5) → D2 = d ∧ J2 = jj from fun h => by rw [hD2, hJ2]; exact dz_45 (by rw [← hz]; exact h))
    rw [← hE, ← hD2, ← hJ2] at hdo hwo
    rw [← hD2, ← hJ2] at HPX
    rw [← hWa] at hdo HPJ1 HQ1 hb1
    have HDO := Aside0.mk hdo
    have HWO := Aside0.mk hwo
    obtain ⟨o, ho⟩ : ∃ o, o = D2.off := ⟨_, rfl⟩
    have HOO := Aside0.mk ho
    have HWS := Aside0.mk (show wr.heap.size < Wa.heap.size from HQ1.out.lt)
    have HB1' := Aside0.mk (show Below w.heap.size w Wa by rw [hWa]; exact HB1.out)
    have hwac : wr.alloc (.cells #[.int .u8 a.kind, .slice Ra a.recs.length ca, .int .i64 a.n, .bool a.behind, .int .i64 k0, .int .i64 k1, .bool c0, .bool c1] 46) = Wa := hWa.symm
    clear hx hbx hbC hk hcs hb1 hz hdo hwo hE hD2 hJ2 ho hWa HB1 HPI
    go_wp2_with fail
    have q0 : Wa.cell? ⟨wr.heap.size, 0, none⟩ = some (.int .u8 a.kind) := HQ1.out.cell 0
    have q1 : Wa.cell? ⟨wr.heap.size, 1, none⟩ = some (.slice Ra a.recs.length ca) := HQ1.out.cell 1
    have q2 : Wa.cell? ⟨wr.heap.size, 2, none⟩ = some (.int .i64 a.n) := HQ1.out.cell 2
    have q3 : Wa.cell? ⟨wr.heap.size, 3, none⟩ = some (.bool a.behind) := HQ1.out.cell 3
    have q4 : Wa.cell? ⟨wr.heap.size, 4, none⟩ = some (.int .i64 k0) := HQ1.out.cell 4
    have q5 : Wa.cell? ⟨wr.heap.size, 5, none⟩ = some (.int .i64 k1) := HQ1.out.cell 5
    have q6 : Wa.cell? ⟨wr.heap.size, 6, none⟩ = some (.bool c0) := HQ1.out.cell 6
    have q7 : Wa.cell? ⟨wr.heap.size, 7, none⟩ = some (.bool c1) := HQ1.out.cell 7
    clear hx0 hx1 hx2 hx3 hx4 hx5 hx6 hx7 hwac
    refine start_ (n := 25) (S := fun w' => w'.cell? ⟨wr.heap.size, 0, none⟩ = some (.int .u8 a.kind) ∧ w'.cell? ⟨wr.heap.size, 1, none⟩ = some (.slice Ra a.recs.length ca) ∧ w'.cell? ⟨wr.heap.size, 2, none⟩ = some (.int .i64 a.n) ∧ w'.cell? ⟨wr.heap.size, 3, none⟩ = some (.bool a.behind) ∧ w'.cell? ⟨wr.heap.size, 4, none⟩ = some (.int .i64 k0) ∧ w'.cell? ⟨wr.heap.size, 5, none⟩ = some (.int .i64 k1) ∧ w'.cell? ⟨wr.heap.size, 6, none⟩ = some (.bool c0) ∧ w'.cell? ⟨wr.heap.size, 7, none⟩ = some (.bool c1)) (ds := []) (bl 25 0x0) (by as_aux_lemma => kernel_rfl) rfl (by as_aux_lemma => kernel_rfl) ⟨q0, q1, q2, q3, q4, q5, q6, q7⟩ (fun hHeld => ?_)
    refine pu 0 (some 77) (bl 25 0x1) ?_
    refine pu 1 (some 78) (bl 25 0x3) ?_
    refine pu 2 (some 79) (bl 25 0x7) ?_
    refine pu 3 (some 80) (bl 25 0xf) ?_
    refine tk 4 (some 81) (bl 25 0x1f) hHeld ?_
    refine tk 6 (some 83) (bl 25 0x5f) hHeld ?_
    refine one_ (i := 5) (N := some 82) (bl 25 0x7f) rfl rfl (by as_aux_lemma => kernel_rfl) (by decide) (fun K hK => ?_)
    refine goes_ Try.func28 (by as_aux_lemma => kernel_rfl) rfl #[.pointer (some ⟨jb, 0, none⟩), .agg #[.int .u8 a.kind, .slice Ra a.recs.length ca, .int .i64 a.n, .bool a.behind, .int .i64 k0, .int .i64 k1, .bool c0, .bool c1]] (by rfl) rfl rfl (by simp only [List.map_toArray, List.map_cons, List.map_nil]; rfl) ?_
    with_reducible refine (HDO.out).mono ?_
    rintro e w5 ⟨rfl, S5, hJ_, hM_⟩
    refine ⟨_, rfl, ?_⟩
    have hd_ := below_drew (Below.refl Wa.heap.size Wa)
    have HPJ2 := Aside0.mk ((HPJ1.out.below hd_).one (show w.heap.size ≤ Wa.drew.heap.size from HB1'.out.size) hM_ hJ_)
    have HB5 := Aside0.mk ((HPJ1.out.below hd_).base1 (show w.heap.size ≤ Wa.drew.heap.size from HB1'.out.size) hM_ (HB1'.out.trans (hd_.mono HB1'.out.size)))
    have HQ5 := Aside0.mk (show Blk.At wr.heap.size #[.int .u8 a.kind, .slice Ra a.recs.length ca, .int .i64 a.n, .bool a.behind, .int .i64 k0, .int .i64 k1, .bool c0, .bool c1] 46 w5 from (hM_.keep wr.heap.size (show wr.heap.size < Wa.drew.heap.size from HWS.out) HQS.out.1).trans HQ1.out)
    have HQS5 := Aside0.mk (show ¬ S5 wr.heap.size from fun hs => (hM_.grow _ hs).elim HQS.out.1 (fun x => by have x2 : Wa.heap.size ≤ wr.heap.size := x; have := HWS.out; omega))
    have HWC := Aside0.mk (HWO.out T w5 HPJ2.out.rn (.inr (HCRb.out w5 HB5.out)) (HCRb.out w5 HB5.out))
    clear hJ_ hM_ hd_
    refine hK.out _ _ ⟨HQ5.out.cell 0, HQ5.out.cell 1, HQ5.out.cell 2, HQ5.out.cell 3, HQ5.out.cell 4, HQ5.out.cell 5, HQ5.out.cell 6, HQ5.out.cell 7⟩ (fun hHeld => ?_)
    clear hK K
    refine norm_ (a' := ?_) ?_ ?_
    rotate_left
    · show Act.put _ (some 82) _ = _
      simp only [Act.put, List.setIfInBounds_toArray, List.set_cons_zero, List.set_cons_succ, i64_w, i32_w]
      rfl
    refine one_ (i := 7) (N := some 84) (bl 25 0xff) rfl rfl (by as_aux_lemma => kernel_rfl) (by decide) (fun K hK => ?_)
    refine goes_ Try.func32 (by as_aux_lemma => kernel_rfl) rfl #[.pointer (some ⟨kb, 0, none⟩), .agg #[.int .u8 a.kind, .slice Ra a.recs.length ca, .int .i64 a.n, .bool a.behind, .int .i64 k0, .int .i64 k1, .bool c0, .bool c1]] (by rfl) rfl rfl (by simp only [List.map_toArray, List.map_cons, List.map_nil]; rfl) ?_
    with_reducible refine (HWC.out).mono ?_
    rintro e w6 ⟨rfl, T6, hJ_, hM_⟩
    refine ⟨_, rfl, ?_⟩
    have HPJ3 := Aside0.mk (HPJ2.out.two HB5.out.size hM_ hJ_)
    have HB6 := Aside0.mk (HPJ2.out.base2 HB5.out.size hM_ HB5.out)
    have HQ6 := Aside0.mk (show Blk.At wr.heap.size #[.int .u8 a.kind, .slice Ra a.recs.length ca, .int .i64 a.n, .bool a.behind, .int .i64 k0, .int .i64 k1, .bool c0, .bool c1] 46 w6 from (hM_.keep wr.heap.size HQ5.out.lt HQS.out.2).trans HQ5.out)
    have HQT6 := Aside0.mk (show ¬ T6 wr.heap.size from fun hs => (hM_.grow _ hs).elim HQS.out.2 (fun x => by have := HQ5.out.lt; omega))
    obtain ⟨okr, gvr, hrj⟩ := HPJ3.out.rn
    obtain ⟨Ag, cg, rfl⟩ := Kd.V_slice hrj.view
    have y8 : w6.cell? ⟨g2, 8, none⟩ = some (.bool o) := by rw [HOO.out]; exact hrj.r8
    have y1 : w6.cell? ⟨kb, 1, none⟩ = some (.slice Ag J2.group.length cg) := hrj.c1
    have hon := dn_On HPJ3.out.jn.dn HPX.out.good
    rw [← HOO.out] at hon
    have HON := Aside0.mk hon
    have HGR := Aside0.mk (jGroup.calls HPJ3.out.jn)
    clear hJ_ hM_ hrj hon HPJ2
    refine hK.out _ _ ⟨HQ6.out.cell 0, HQ6.out.cell 1, HQ6.out.cell 2, HQ6.out.cell 3, HQ6.out.cell 4, HQ6.out.cell 5, HQ6.out.cell 6, HQ6.out.cell 7⟩ (fun hHeld => ?_)
    clear hK K
    refine norm_ (a' := ?_) ?_ ?_
    rotate_left
    · show Act.put _ (some 84) _ = _
      simp only [Act.put, List.setIfInBounds_toArray, List.set_cons_zero, List.set_cons_succ, i64_w, i32_w]
      rfl
    refine pu 8 (some 85) (bl 25 0x1ff) ?_
    refine pu 9 (some 86) (bl 25 0x3ff) ?_
    refine pu 10 (some 87) (bl 25 0x7ff) ?_
    refine pu 11 (some 88) (bl 25 0xfff) ?_
    refine pu 13 (some 90) (bl 25 0x2fff) ?_
    refine join_ (σ := Unit) 10 (bl 25 0x7fff) (fun _ => [(89, .bool (!o)), (91, .bool o)]) (fun _ w' => w6 = w') ?_ ?_
    rotate_left
    · intro hCont
      refine two_ (i := 12) (j := 14) (Ni := some 89) (Nj := some 91) (bl 25 0x3fff) (bl 25 0x6fff) rfl rfl rfl rfl (by as_aux_lemma => kernel_rfl) (by decide) (by decide) (fun K hK => ?_) (fun K hK => ?_)
      · skip
        refine goes_ Try.func23 (by as_aux_lemma => kernel_rfl) rfl #[.pointer (some ⟨g, 0, none⟩)] (by rfl) rfl rfl (by simp only [List.map_toArray, List.map_cons, List.map_nil]; rfl) ?_
        with_reducible refine (HON.out).mono ?_
        rintro e w6 ⟨rfl, rfl⟩
        refine ⟨_, rfl, ?_⟩
        refine hK.out _ _ ⟨hHeld.1, hHeld.2.1, hHeld.2.2.1, hHeld.2.2.2.1, hHeld.2.2.2.2.1, hHeld.2.2.2.2.2.1, hHeld.2.2.2.2.2.2.1, hHeld.2.2.2.2.2.2.2⟩ (fun hHeld => ?_)
        clear hK K
        refine norm_ (a' := ?_) ?_ ?_
        rotate_left
        · show Act.put _ (some 89) _ = _
          simp only [Act.put, List.setIfInBounds_toArray, List.set_cons_zero, List.set_cons_succ, i64_w, i32_w]
          rfl
        refine one_ (i := 14) (N := some 91) (bl 25 0x7fff) rfl rfl (by as_aux_lemma => kernel_rfl) (by decide) (fun K hK => ?_)
        refine value_ (w1 := ?_) (v := ?_) (by rfl) rfl ?_ ?_
        rotate_left 2
        · go_simp
          constructor
          · rfl
          · rfl
        refine hK.out _ _ ⟨hHeld.1, hHeld.2.1, hHeld.2.2.1, hHeld.2.2.2.1, hHeld.2.2.2.2.1, hHeld.2.2.2.2.2.1, hHeld.2.2.2.2.2.2.1, hHeld.2.2.2.2.2.2.2⟩ (fun hHeld => ?_)
        clear hK K
        refine norm_ (a' := ?_) ?_ ?_
        rotate_left
        · show Act.put _ (some 91) _ = _
          simp only [Act.put, List.setIfInBounds_toArray, List.set_cons_zero, List.set_cons_succ, i64_w, i32_w]
          rfl
        exact norm_ (by simp only [putAll, Act.put, List.setIfInBounds_toArray, List.set_cons_zero, List.set_cons_succ]) (hCont () _ rfl)
      · skip
        refine value_ (w1 := ?_) (v := ?_) (by rfl) rfl ?_ ?_
        rotate_left 2
        · go_simp
          constructor
          · rfl
          · rfl
        refine hK.out _ _ ⟨hHeld.1, hHeld.2.1, hHeld.2.2.1, hHeld.2.2.2.1, hHeld.2.2.2.2.1, hHeld.2.2.2.2.2.1, hHeld.2.2.2.2.2.2.1, hHeld.2.2.2.2.2.2.2⟩ (fun hHeld => ?_)
        clear hK K
        refine norm_ (a' := ?_) ?_ ?_
        rotate_left
        · show Act.put _ (some 91) _ = _
          simp only [Act.put, List.setIfInBounds_toArray, List.set_cons_zero, List.set_cons_succ, i64_w, i32_w]
          rfl
        refine one_ (i := 12) (N := some 89) (bl 25 0x7fff) rfl rfl (by as_aux_lemma => kernel_rfl) (by decide) (fun K hK => ?_)
        refine goes_ Try.func23 (by as_aux_lemma => kernel_rfl) rfl #[.pointer (some ⟨g, 0, none⟩)] (by rfl) rfl rfl (by simp only [List.map_toArray, List.map_cons, List.map_nil]; rfl) ?_
        with_reducible refine (HON.out).mono ?_
        rintro e w6 ⟨rfl, rfl⟩
        refine ⟨_, rfl, ?_⟩
        refine hK.out _ _ ⟨hHeld.1, hHeld.2.1, hHeld.2.2.1, hHeld.2.2.2.1, hHeld.2.2.2.2.1, hHeld.2.2.2.2.2.1, hHeld.2.2.2.2.2.2.1, hHeld.2.2.2.2.2.2.2⟩ (fun hHeld => ?_)
        clear hK K
        refine norm_ (a' := ?_) ?_ ?_
        rotate_left
        · show Act.put _ (some 89) _ = _
          simp only [Act.put, List.setIfInBounds_toArray, List.set_cons_zero, List.set_cons_succ, i64_w, i32_w]
          rfl
        exact norm_ (by simp only [putAll, Act.put, List.setIfInBounds_toArray, List.set_cons_zero, List.set_cons_succ]) (hCont () _ rfl)
    rintro _ _ rfl
    refine norm_ (a' := ?_) ?_ ?_
    rotate_left
    · simp only [putAll, Act.put, List.setIfInBounds_toArray, List.set_cons_zero, List.set_cons_succ]
      rfl
    refine pu 15 (some 92) (bl 25 0xffff) ?_
    refine pu 16 (some 93) (bl 25 0x1ffff) ?_
    refine pu 17 (some 94) (bl 25 0x3ffff) ?_
    refine pu 18 (some 95) (bl 25 0x7ffff) ?_
    refine pu 20 (some 97) (bl 25 0x17ffff) ?_
    refine join_ (σ := Unit) 2 (bl 25 0x7fffff) (fun _ => [(96, .int .i64 (J2.group.length : Int)), (98, .slice Ag J2.group.length cg), (99, .int .i64 (J2.group.length : Int))]) (fun _ w' => w6 = w') ?_ ?_
    rotate_left
    · intro hCont
      refine two_ (i := 19) (j := 21) (Ni := some 96) (Nj := some 98) (bl 25 0x1fffff) (bl 25 0x37ffff) rfl rfl rfl rfl (by as_aux_lemma => kernel_rfl) (by decide) (by decide) (fun K hK => ?_) (fun K hK => ?_)
      · skip
        refine goes_ Try.func26 (by as_aux_lemma => kernel_rfl) rfl #[.pointer (some ⟨jb, 0, none⟩)] (by rfl) rfl rfl (by simp only [List.map_toArray, List.map_cons, List.map_nil]; rfl) ?_
        with_reducible refine (HGR.out).mono ?_
        rintro e w6 ⟨rfl, rfl⟩
        refine ⟨_, rfl, ?_⟩
        refine hK.out _ _ ⟨hHeld.1, hHeld.2.1, hHeld.2.2.1, hHeld.2.2.2.1, hHeld.2.2.2.2.1, hHeld.2.2.2.2.2.1, hHeld.2.2.2.2.2.2.1, hHeld.2.2.2.2.2.2.2⟩ (fun hHeld => ?_)
        clear hK K
        refine norm_ (a' := ?_) ?_ ?_
        rotate_left
        · show Act.put _ (some 96) _ = _
          simp only [Act.put, List.setIfInBounds_toArray, List.set_cons_zero, List.set_cons_succ, i64_w, i32_w]
          rfl
        refine one_ (i := 21) (N := some 98) (bl 25 0x3fffff) rfl rfl (by as_aux_lemma => kernel_rfl) (by decide) (fun K hK => ?_)
        refine value_ (w1 := ?_) (v := ?_) (by rfl) rfl ?_ ?_
        rotate_left 2
        · go_simp
          constructor
          · rfl
          · rfl
        refine hK.out _ _ ⟨hHeld.1, hHeld.2.1, hHeld.2.2.1, hHeld.2.2.2.1, hHeld.2.2.2.2.1, hHeld.2.2.2.2.2.1, hHeld.2.2.2.2.2.2.1, hHeld.2.2.2.2.2.2.2⟩ (fun hHeld => ?_)
        clear hK K
        refine norm_ (a' := ?_) ?_ ?_
        rotate_left
        · show Act.put _ (some 98) _ = _
          simp only [Act.put, List.setIfInBounds_toArray, List.set_cons_zero, List.set_cons_succ, i64_w, i32_w]
          rfl
        refine pu 22 (some 99) (bl 25 0x7fffff) ?_
        exact norm_ (by simp only [putAll, Act.put, List.setIfInBounds_toArray, List.set_cons_zero, List.set_cons_succ]) (hCont () _ rfl)
      · skip
        refine value_ (w1 := ?_) (v := ?_) (by rfl) rfl ?_ ?_
        rotate_left 2
        · go_simp
          constructor
          · rfl
          · rfl
        refine hK.out _ _ ⟨hHeld.1, hHeld.2.1, hHeld.2.2.1, hHeld.2.2.2.1, hHeld.2.2.2.2.1, hHeld.2.2.2.2.2.1, hHeld.2.2.2.2.2.2.1, hHeld.2.2.2.2.2.2.2⟩ (fun hHeld => ?_)
        clear hK K
        refine norm_ (a' := ?_) ?_ ?_
        rotate_left
        · show Act.put _ (some 98) _ = _
          simp only [Act.put, List.setIfInBounds_toArray, List.set_cons_zero, List.set_cons_succ, i64_w, i32_w]
          rfl
        refine pu 22 (some 99) (bl 25 0x77ffff) ?_
        refine one_ (i := 19) (N := some 96) (bl 25 0x7fffff) rfl rfl (by as_aux_lemma => kernel_rfl) (by decide) (fun K hK => ?_)
        refine goes_ Try.func26 (by as_aux_lemma => kernel_rfl) rfl #[.pointer (some ⟨jb, 0, none⟩)] (by rfl) rfl rfl (by simp only [List.map_toArray, List.map_cons, List.map_nil]; rfl) ?_
        with_reducible refine (HGR.out).mono ?_
        rintro e w6 ⟨rfl, rfl⟩
        refine ⟨_, rfl, ?_⟩
        refine hK.out _ _ ⟨hHeld.1, hHeld.2.1, hHeld.2.2.1, hHeld.2.2.2.1, hHeld.2.2.2.2.1, hHeld.2.2.2.2.2.1, hHeld.2.2.2.2.2.2.1, hHeld.2.2.2.2.2.2.2⟩ (fun hHeld => ?_)
        clear hK K
        refine norm_ (a' := ?_) ?_ ?_
        rotate_left
        · show Act.put _ (some 96) _ = _
          simp only [Act.put, List.setIfInBounds_toArray, List.set_cons_zero, List.set_cons_succ, i64_w, i32_w]
          rfl
        exact norm_ (by simp only [putAll, Act.put, List.setIfInBounds_toArray, List.set_cons_zero, List.set_cons_succ]) (hCont () _ rfl)
    rintro _ _ rfl
    refine norm_ (a' := ?_) ?_ ?_
    rotate_left
    · simp only [putAll, Act.put, List.setIfInBounds_toArray, List.set_cons_zero, List.set_cons_succ]
      rfl
    refine pu 23 (some 100) (bl 25 0xffffff) ?_
    refine pu 24 (some 101) (bl 25 0x1ffffff) ?_
    refine done_ (by as_aux_lemma => kernel_rfl) ?_
    have r0_ : w6.cell? ⟨wr.heap.size, 0, none⟩ = some (.int .u8 a.kind) := HQ6.out.cell 0
    clear q0 q1 q2 q3 q4 q5 q6 q7 y1 y8
    go_upto_if 105 with fail
    go_cut [] (fun wc => ∃ (S7 T7 : Nat → Prop) (D3 : D), Aside0 (PJ w.heap.size S7 T7 g jb g2 kb D3 J2 D3 J2 wc) ∧ Aside0 (PX (n + 1) D3 J2) ∧ Aside0 (Below w.heap.size w wc) ∧ Aside0 (Blk.At wr.heap.size #[.int .u8 a.kind, .slice Ra a.recs.length ca, .int .i64 a.n, .bool a.behind, .int .i64 k0, .int .i64 k1, .bool c0, .bool c1] 46 wc) ∧ Aside0 (¬ S7 wr.heap.size) ∧ Aside0 (¬ T7 wr.heap.size))
    case first => as_aux_lemma =>
      by_cases t4 : z = 4
      case pos =>
        have tb4 : (z == 4) = true := by simpa using t4
        have HARM := Aside0.mk (HPJ3.out.jn.act (fun ok hA => disk_Arm.all hA HPX.out.good a.n a.behind))
        have r0 : w6.cell? ⟨wr.heap.size, 0, none⟩ = some (.int .u8 a.kind) := HQ6.out.cell 0
        have r2 : w6.cell? ⟨wr.heap.size, 2, none⟩ = some (.int .i64 a.n) := HQ6.out.cell 2
        have r3 : w6.cell? ⟨wr.heap.size, 3, none⟩ = some (.bool a.behind) := HQ6.out.cell 3
        have HPXa := Aside0.mk (HPX.out.arm HAN.out a.behind)
        clear t4
        go_wp2_with fail
        refine HARM.out.mono ?_
        rintro e w7 ⟨rfl, S7, hJ, hM⟩
        have HPJ7 := Aside0.mk (HPJ3.out.one HB6.out.size hM hJ)
        have HB7 := Aside0.mk (HPJ3.out.base1 HB6.out.size hM HB6.out)
        have HQ7 := Aside0.mk (show Blk.At wr.heap.size #[.int .u8 a.kind, .slice Ra a.recs.length ca, .int .i64 a.n, .bool a.behind, .int .i64 k0, .int .i64 k1, .bool c0, .bool c1] 46 w7 from (hM.keep wr.heap.size HQ6.out.lt HQS5.out).trans HQ6.out)
        have HNS7 := Aside0.mk (show ¬ S7 wr.heap.size from fun hs => (hM.grow _ hs).elim HQS5.out (fun x => by have := HQ6.out.lt; omega))
        have s2 : w7.cell? ⟨wr.heap.size, 2, none⟩ = some (.int .i64 a.n) := HQ7.out.cell 2
        have s3 : w7.cell? ⟨wr.heap.size, 3, none⟩ = some (.bool a.behind) := HQ7.out.cell 3
        obtain ⟨o_, f_, b_, e8_, e9_, e10_, f8, f9, f10⟩ := HPJ7.out.rn.cw
        have HNQ := Aside0.mk (show wr.heap.size ≠ g2 from fun e => HQT6.out (by rw [e]; obtain ⟨_, _, hh⟩ := HPJ7.out.rn; exact hh.sg))
        clear hJ hM HARM r0 r2 r3
        go_wp2_with fail
        refine start_ (n := 9) (S := fun w' => w'.cell? ⟨wr.heap.size, 2, none⟩ = some (.int .i64 a.n) ∧ w'.cell? ⟨wr.heap.size, 3, none⟩ = some (.bool a.behind)) (ds := [8]) (bl 9 0x0) (by as_aux_lemma => kernel_rfl) rfl (by as_aux_lemma => kernel_rfl) ⟨s2, s3⟩ (fun hHeld => ?_)
        refine pu 0 (some 112) (bl 9 0x1) ?_
        refine pu 3 (some 115) (bl 9 0x9) ?_
        refine tk 1 (some 113) (bl 9 0xb) hHeld ?_
        refine pu 2 (some 114) (bl 9 0xf) ?_
        refine pu 5 (some 117) (bl 9 0x2f) ?_
        refine tk 4 (some 116) (bl 9 0x3f) hHeld ?_
        refine one_ (i := 6) (N := none) (bl 9 0x7f) rfl rfl (by as_aux_lemma => kernel_rfl) (by decide) (fun K hK => ?_)
        refine skip_ (w1 := ?_) (by rfl) rfl ?_ ?_
        rotate_left
        · go_simp
          rfl
        refine hK.out _ _ ⟨(HQ7.out.set_other (fun e => HNQ.out e.symm) 9 _).cell 2, (HQ7.out.set_other (fun e => HNQ.out e.symm) 9 _).cell 3⟩ (fun hHeld => ?_)
        clear hK K
        refine pu 7 (some 118) (bl 9 0xff) ?_
        refine last_ (i := 8) (N := none) (bl 9 0x1ff) rfl rfl (by as_aux_lemma => kernel_rfl) (by decide) (fun K hK => ?_)
        refine skip_ (w1 := ?_) (by rfl) rfl ?_ ?_
        rotate_left
        · go_simp
          rfl
        refine hK.out _ _ ?_
        clear hK K
        refine done_ (by as_aux_lemma => kernel_rfl) ?_
        obtain ⟨T8, hR8, hM8⟩ := HPJ7.out.rn.store2 9 10 (.int .i64 (mx a.n (-1))) (.bool a.behind) (d' := armD a.n a.behind D2) rfl rfl (fun _ _ _ _ => rfl)
        obtain ⟨w8, hw8⟩ : ∃ w8, w8 = ((w7.setCell ⟨g2, 9, none⟩ (.int .i64 (mx a.n (-1)))).setCell ⟨g2, 10, none⟩ (.bool a.behind)).drew := ⟨_, rfl⟩
        rw [← hw8]
        have hPJ8a := HPJ7.out.two HB7.out.size hM8 hR8
        have hB8a := HPJ7.out.base2 HB7.out.size hM8 HB7.out
        have HPJ8 := Aside0.mk (show PJ w.heap.size S7 T8 g jb g2 kb (armD a.n a.behind D2) J2 (armD a.n a.behind D2) J2 w8 by rw [hw8]; exact hPJ8a.below (below_drew (Below.refl _ _)))
        have HB8 := Aside0.mk (show Below w.heap.size w w8 by rw [hw8]; exact hB8a.trans ((below_drew (Below.refl _ _)).mono hB8a.size))
        have HNT8 := Aside0.mk (show ¬ T8 wr.heap.size from fun hs => (hM8.grow _ hs).elim HQT6.out (fun x => by have := HQ7.out.lt; omega))
        have HQ8 := Aside0.mk (show Blk.At wr.heap.size #[.int .u8 a.kind, .slice Ra a.recs.length ca, .int .i64 a.n, .bool a.behind, .int .i64 k0, .int .i64 k1, .bool c0, .bool c1] 46 w8 by rw [hw8]; exact ((HQ7.out.set_other (fun e => HNQ.out e.symm) 9 _).set_other (fun e => HNQ.out e.symm) 10 _).drew)
        have t0 : w8.cell? ⟨wr.heap.size, 0, none⟩ = some (.int .u8 a.kind) := HQ8.out.cell 0
        obtain ⟨D3, hD3⟩ : ∃ D3, D3 = armD a.n a.behind D2 := ⟨_, rfl⟩
        rw [← hD3] at HPJ8 HPXa
        clear hR8 hM8 hw8 hPJ8a hB8a s2 s3 e8_ e9_ e10_ f8 f9 f10 hD3
        go_wp2_with fail
        go_meet
        case rel => exact ⟨S7, T8, D3, HPJ8, HPXa, HB8, HQ8, HNS7, HNT8⟩
      have tb4 : (z == 4) = false := by simpa using t4
      go_wp2_with fail
      go_meet
      case rel => exact ⟨S5, T6, D2, HPJ3, HPX, HB6, HQ6, HQS5, HQT6⟩
    case rest =>
    as_aux_lemma =>
    clear r0_ HPJ3 HPX HB6 HQ6 HQS5 HQT6 HON HGR HOO
    obtain ⟨S5, T6, D2, HPJ3, HPX, HB6, HQ6, HQS5, HQT6⟩ := hcut
    have r0_ : wc.cell? ⟨wr.heap.size, 0, none⟩ = some (.int .u8 a.kind) := HQ6.out.cell 0
    go_upto_if 122 with fail
    go_cut [] (fun wc => ∃ (S7 T7 : Nat → Prop) (D3 : D), Aside0 (PJ w.heap.size S7 T7 g jb g2 kb D3 J2 D3 J2 wc) ∧ Aside0 (PX (n + 1) D3 J2) ∧ Aside0 (Below w.heap.size w wc) ∧ Aside0 (Blk.At wr.heap.size #[.int .u8 a.kind, .slice Ra a.recs.length ca, .int .i64 a.n, .bool a.behind, .int .i64 k0, .int .i64 k1, .bool c0, .bool c1] 46 wc) ∧ Aside0 (¬ S7 wr.heap.size) ∧ Aside0 (¬ T7 wr.heap.size))
    case first => as_aux_lemma =>
      by_cases t5 : z = 5
      case pos =>
        have tb5 : (z == 5) = true := by simpa using t5
        have HFAI := Aside0.mk (HPJ3.out.jn.act (fun ok hA => disk_Fail.calls hA HPX.out.good.room.pos))
        have HPXa := Aside0.mk HPX.out.fail
        clear t5
        go_wp2_with fail
        refine HFAI.out.mono ?_
        rintro e w7 ⟨rfl, S7, hJ, hM⟩
        have HPJ7 := Aside0.mk (show PJ w.heap.size S7 T6 g jb g2 kb (offD D2) J2 D2 J2 w7 from HPJ3.out.one HB6.out.size hM hJ)
        have HB7 := Aside0.mk (HPJ3.out.base1 HB6.out.size hM HB6.out)
        have HQ7 := Aside0.mk (show Blk.At wr.heap.size #[.int .u8 a.kind, .slice Ra a.recs.length ca, .int .i64 a.n, .bool a.behind, .int .i64 k0, .int .i64 k1, .bool c0, .bool c1] 46 w7 from (hM.keep wr.heap.size HQ6.out.lt HQS5.out).trans HQ6.out)
        have HNS7 := Aside0.mk (show ¬ S7 wr.heap.size from fun hs => (hM.grow _ hs).elim HQS5.out (fun x => by have := HQ6.out.lt; omega))
        obtain ⟨o_, f_, b_, e8_, e9_, e10_, f8, f9, f10⟩ := HPJ7.out.rn.cw
        have HNQ := Aside0.mk (show wr.heap.size ≠ g2 from fun e => HQT6.out (by rw [e]; obtain ⟨_, _, hh⟩ := HPJ7.out.rn; exact hh.sg))
        obtain ⟨T8, hR8, hM8⟩ := HPJ7.out.rn.store2 8 9 (.bool true) (.int .i64 (-1)) (d' := offD D2) rfl rfl (fun _ _ _ _ => rfl)
        have HPJ8 := Aside0.mk (HPJ7.out.two HB7.out.size hM8 hR8)
        have HB8 := Aside0.mk (HPJ7.out.base2 HB7.out.size hM8 HB7.out)
        have HNT8 := Aside0.mk (show ¬ T8 wr.heap.size from fun hs => (hM8.grow _ hs).elim HQT6.out (fun x => by have := HQ7.out.lt; omega))
        have HQ8 := Aside0.mk ((HQ7.out.set_other (fun e => HNQ.out e.symm) 8 (.bool true)).set_other (fun e => HNQ.out e.symm) 9 (.int .i64 (-1)))
        have t0 : ((w7.setCell ⟨g2, 8, none⟩ (.bool true)).setCell ⟨g2, 9, none⟩ (.int .i64 (-1))).cell? ⟨wr.heap.size, 0, none⟩ = some (.int .u8 a.kind) := HQ8.out.cell 0
        obtain ⟨D3, hD3⟩ : ∃ D3, D3 = offD D2 := ⟨_, rfl⟩
        rw [← hD3] at HPJ8 HPXa
        clear hJ hM HFAI hR8 hM8 hD3
        go_wp2_with fail
        obtain ⟨w8, hw8⟩ : ∃ w8, w8 = ((w7.setCell ⟨g2, 8, none⟩ (.bool true)).setCell ⟨g2, 9, none⟩ (.int .i64 (-1))) := ⟨_, rfl⟩
        rw [← hw8] at HPJ8 HB8 HQ8 ⊢
        clear hw8 t0 e8_ e9_ e10_ f8 f9 f10
        go_meet
        case rel => exact ⟨S7, T8, D3, HPJ8, HPXa, HB8, HQ8, HNS7, HNT8⟩
      have tb5 : (z == 5) = false := by simpa using t5
      go_wp2_with fail
      go_meet
      case rel => exact ⟨S5, T6, D2, HPJ3, HPX, HB6, HQ6, HQS5, HQT6⟩
    case rest =>
    as_aux_lemma =>
    clear r0_ HPJ3 HPX HB6 HQ6 HQS5 HQT6
    obtain ⟨S5, T6, D2, HPJ3, HPX, HB6, HQ6, HQS5, HQT6⟩ := hcut
    obtain ⟨o, ho⟩ : ∃ o, o = D2.off := ⟨_, rfl⟩
    have HOO := Aside0.mk ho
    have hon := dn_On HPJ3.out.jn.dn HPX.out.good
    rw [← ho] at hon
    have HONf := Aside0.mk hon
    clear hon ho
    go_wp2_with fail
    refine HONf.out.mono ?_
    rintro e wc ⟨rfl, rfl⟩
    go_upto_if 129 with fail
    go_cut [9] (fun v9 wc => ∃ (jb' : Nat) (S7 T7 : Nat → Prop) (D5 : D) (J5 : J), v9 = .pointer (some ⟨jb', 0, none⟩) ∧ Aside0 (PJ w.heap.size S7 T7 g jb' g2 kb D5 J5 D5 J5 wc) ∧ Aside0 (PI (n + 1) D5 J5) ∧ Aside0 (Below w.heap.size w wc))
    case first => as_aux_lemma =>
      cases o
      case false =>
        have HPIf := Aside0.mk (HPX.out.pi HOO.out.symm)
        go_wp2_with fail
        go_meet
        case rel => exact ⟨jb, S5, T6, D2, J2, rfl, HPJ3, HPIf, HB6⟩
      have HOFa := Aside0.mk (show D2.off = true from HOO.out.symm)
      have hsn := start_on HOFa.out k0 k1 c0 c1
      have HSN := Aside0.mk hsn
      have HG4 := Aside0.mk (good_start HPX.out.good k0 k1 c0 c1)
      have HBY4 := Aside0.mk (by_start HPX.out.bys k0 k1 c0 c1)
      have t4 : wc.cell? ⟨wr.heap.size, 4, none⟩ = some (.int .i64 k0) := HQ6.out.cell 4
      have t5 : wc.cell? ⟨wr.heap.size, 5, none⟩ = some (.int .i64 k1) := HQ6.out.cell 5
      have t6 : wc.cell? ⟨wr.heap.size, 6, none⟩ = some (.bool c0) := HQ6.out.cell 6
      have t7 : wc.cell? ⟨wr.heap.size, 7, none⟩ = some (.bool c1) := HQ6.out.cell 7
      have hst := (HPJ3.out.jn.below (below_drew (Below.refl _ wc))).act (fun ok hA => disk_Start.all hA HPX.out.good k0 k1 c0 c1)
      have hrs : ∀ (T' : Nat → Prop) (W : World), Rn T' g2 kb D2 J2 W → Calls Try.prog 33 #[.pointer (some ⟨g2, 0, none⟩), .agg #[.int .i64 k0, .int .i64 k1, .bool c0, .bool c1]] W fun e w' => e = .returned (.int .i64 (startE D2)) ∧ ∃ T2, Rn T2 g2 kb (startD k0 k1 c0 c1 D2) J2 w' ∧ Mv T' T2 W w' :=
        fun T' W hr => hr.act (fun ok hA => rStart.calls hA HPX.out.good k0 k1 c0 c1)
      obtain ⟨i4, hi4⟩ := HPX.out.any
      have HRT4 := Aside0.mk (show (startD k0 k1 c0 c1 D2).root = iv i4 from hsn.2.2.2.trans hi4)
      obtain ⟨D4, hD4⟩ : ∃ D4, D4 = startD k0 k1 c0 c1 D2 := ⟨_, rfl⟩
      rw [hsn.1, ← hD4] at hst
      rw [hsn.1, ← hD4] at hrs
      rw [← hD4] at HG4 HBY4 HRT4 HSN
      have HST := Aside0.mk hst
      have HRS := Aside0.mk hrs
      clear hsn hst hrs hi4 hD4
      go_wp2_with fail
      refine start_ (n := 14) (S := fun w' => w'.cell? ⟨wr.heap.size, 4, none⟩ = some (.int .i64 k0) ∧ w'.cell? ⟨wr.heap.size, 5, none⟩ = some (.int .i64 k1) ∧ w'.cell? ⟨wr.heap.size, 6, none⟩ = some (.bool c0) ∧ w'.cell? ⟨wr.heap.size, 7, none⟩ = some (.bool c1)) (ds := []) (bl 14 0x0) (by as_aux_lemma => kernel_rfl) rfl (by as_aux_lemma => kernel_rfl) ⟨t4, t5, t6, t7⟩ (fun hHeld => ?_)
      refine pu 0 (some 130) (bl 14 0x1) ?_
      refine pu 1 (some 131) (bl 14 0x3) ?_
      refine pu 3 (some 133) (bl 14 0xb) ?_
      refine pu 7 (some 137) (bl 14 0x8b) ?_
      refine pu 9 (some 139) (bl 14 0x28b) ?_
      refine tk 2 (some 132) (bl 14 0x28f) hHeld ?_
      refine tk 4 (some 134) (bl 14 0x29f) hHeld ?_
      refine pu 5 (some 135) (bl 14 0x2bf) ?_
      refine tk 8 (some 138) (bl 14 0x3bf) hHeld ?_
      refine tk 10 (some 140) (bl 14 0x7bf) hHeld ?_
      refine pu 11 (some 141) (bl 14 0xfbf) ?_
      refine one_ (i := 6) (N := some 136) (bl 14 0xfff) rfl rfl (by as_aux_lemma => kernel_rfl) (by decide) (fun K hK => ?_)
      refine goes_ Try.func24 (by as_aux_lemma => kernel_rfl) rfl #[.pointer (some ⟨g, 0, none⟩), .agg #[.int .i64 k0, .int .i64 k1, .bool c0, .bool c1]] (by rfl) rfl rfl (by simp only [List.map_toArray, List.map_cons, List.map_nil]; rfl) ?_
      with_reducible refine (HST.out).mono ?_
      rintro e w10 ⟨rfl, S10, hJ_, hM_⟩
      refine ⟨_, rfl, ?_⟩
      have hd_ := below_drew (Below.refl wc.heap.size wc)
      have HPJ10 := Aside0.mk ((HPJ3.out.below hd_).one (show w.heap.size ≤ wc.drew.heap.size from HB6.out.size) hM_ hJ_)
      have HB10 := Aside0.mk ((HPJ3.out.below hd_).base1 (show w.heap.size ≤ wc.drew.heap.size from HB6.out.size) hM_ (HB6.out.trans (hd_.mono HB6.out.size)))
      have HQ10 := Aside0.mk (show Blk.At wr.heap.size #[.int .u8 a.kind, .slice Ra a.recs.length ca, .int .i64 a.n, .bool a.behind, .int .i64 k0, .int .i64 k1, .bool c0, .bool c1] 46 w10 from (hM_.keep wr.heap.size (show wr.heap.size < wc.drew.heap.size from HQ6.out.lt) HQS5.out).trans HQ6.out)
      have HRC := Aside0.mk (HRS.out _ w10 HPJ10.out.rn)
      clear hJ_ hM_ hd_
      refine hK.out _ _ ⟨HQ10.out.cell 4, HQ10.out.cell 5, HQ10.out.cell 6, HQ10.out.cell 7⟩ (fun hHeld => ?_)
      clear hK K
      refine norm_ (a' := ?_) ?_ ?_
      rotate_left
      · show Act.put _ (some 136) _ = _
        simp only [Act.put, List.setIfInBounds_toArray, List.set_cons_zero, List.set_cons_succ, i64_w, i32_w]
        rfl
      refine one_ (i := 12) (N := some 142) (bl 14 0x1fff) rfl rfl (by as_aux_lemma => kernel_rfl) (by decide) (fun K hK => ?_)
      refine goes_ Try.func33 (by as_aux_lemma => kernel_rfl) rfl #[.pointer (some ⟨g2, 0, none⟩), .agg #[.int .i64 k0, .int .i64 k1, .bool c0, .bool c1]] (by rfl) rfl rfl (by simp only [List.map_toArray, List.map_cons, List.map_nil]; rfl) ?_
      with_reducible refine (HRC.out).mono ?_
      rintro e w11 ⟨rfl, T11, hJ_, hM_⟩
      refine ⟨_, rfl, ?_⟩
      have HPJ11 := Aside0.mk (HPJ10.out.two HB10.out.size hM_ hJ_)
      have HB11 := Aside0.mk (HPJ10.out.base2 HB10.out.size hM_ HB10.out)
      have HQ11 := Aside0.mk (show Blk.At wr.heap.size #[.int .u8 a.kind, .slice Ra a.recs.length ca, .int .i64 a.n, .bool a.behind, .int .i64 k0, .int .i64 k1, .bool c0, .bool c1] 46 w11 from (hM_.keep wr.heap.size HQ10.out.lt HQT6.out).trans HQ10.out)
      clear hJ_ hM_
      refine hK.out _ _ ⟨HQ11.out.cell 4, HQ11.out.cell 5, HQ11.out.cell 6, HQ11.out.cell 7⟩ (fun hHeld => ?_)
      clear hK K
      refine norm_ (a' := ?_) ?_ ?_
      rotate_left
      · show Act.put _ (some 142) _ = _
        simp only [Act.put, List.setIfInBounds_toArray, List.set_cons_zero, List.set_cons_succ, i64_w, i32_w]
        rfl
      refine pu 13 (some 143) (bl 14 0x3fff) ?_
      refine done_ (by as_aux_lemma => kernel_rfl) ?_
      have hop := jOpen.calls HPJ11.out.jn.dn HG4.out HSN.out.2.1 HSN.out.2.2.1 i4 HRT4.out
      have HPI5 := Aside0.mk (pi_open (n := n + 1) HG4.out HSN.out.2.1 HSN.out.2.2.1 HRT4.out HBY4.out)
      have HLEN := Aside0.mk (scan_most (flok HG4.out i4).now)
      obtain ⟨D5, hD5⟩ : ∃ D5, D5 = openD i4 D4 := ⟨_, rfl⟩
      obtain ⟨rl, hrl⟩ : ∃ rl, rl = Jr.scanF (D4.fl i4).now := ⟨_, rfl⟩
      have hro : ∀ (ok : Nat → Prop) (W : World), Dr.At g2 ok D4 W → Calls Try.prog 31 #[.pointer (some ⟨g2, 0, none⟩)] W fun e w' => ∃ A c, e = .returned (.tuple #[.agg #[.pointer (some ⟨g2, 0, none⟩), .slice none 0 0, .int .i64 0], .slice A rl.length c, .int .i64 0]) ∧ Dr.At g2 ok D5 w' ∧ Tn g2 W w' ∧ Rs W.heap.size (fun k => k ≠ g2) w' (.slice A rl.length c) rl := fun ok W hA => by
        rw [hD5, hrl]
        exact rOpen.calls hA HG4.out HSN.out.2.1 HSN.out.2.2.1 i4 HRT4.out HBY4.out
      rw [← hD5, ← hrl] at hop
      rw [← hD5] at HPI5
      rw [← hrl] at HLEN
      have HOP5 := Aside0.mk hop
      have HRO5 := Aside0.mk hro
      clear hop hro hD5 hrl t4 t5 t6 t7
      go_wp2_with fail
      refine HOP5.out.mono ?_
      rintro e w12 ⟨jb2, A12, c12, S12, rfl, hJ, hM, hR⟩
      have HPJ12 := Aside0.mk (HPJ11.out.one HB11.out.size hM hJ)
      have HB12 := Aside0.mk (HPJ11.out.base1 HB11.out.size hM HB11.out)
      have HR12 := Aside0.mk (show Rs w11.heap.size (fun k => k ≠ g2) w12 (.slice A12 rl.length c12) rl from Kd.R_mono (Kd.R_bound hR) (fun k hk e => by have h1 := hk.2.1; have h2 := HPJ11.out.rn.lim k (by rw [e]; obtain ⟨_, _, hh⟩ := HPJ11.out.rn; exact hh.sg); omega))
      clear hJ hM hR HOP5
      obtain ⟨okr2, gvr2, hrj2⟩ := HPJ12.out.rn
      have HRJ2 := Aside0.mk hrj2
      have HRC2 := Aside0.mk (HRO5.out okr2 w12 hrj2.at_)
      clear hrj2
      go_wp2_with fail
      refine HRC2.out.mono ?_
      rintro e w13 ⟨A13, c13, rfl, hA, hT, hR⟩
      have hrn13 := HRJ2.out.tn hT hA
      have hm13 := Mv.of_tn (S := T11) hT HRJ2.out.sg
      have HPJ13 := Aside0.mk (HPJ12.out.two HB12.out.size hm13 ⟨_, _, hrn13⟩)
      have HB13 := Aside0.mk (HPJ12.out.base2 HB12.out.size hm13 HB12.out)
      have hR12 : Rs w11.heap.size (fun k => k ≠ g2) w13 (.slice A12 rl.length c12) rl := Kd.R_step HR12.out (fun k hk hl => hT.block k hl hk)
      have hb14 := below_alloc (Below.refl _ w13) (.cells #[.pointer (some ⟨g2, 0, none⟩), .slice none 0 0, .int .i64 0] 70)
      have HSM2 := Aside0.mk (jsame.calls (c0 := c12) (c1 := c13) (w13.alloc (.cells #[.pointer (some ⟨g2, 0, none⟩), .slice none 0 0, .int .i64 0] 70)) (Kd.C_below (Kd.R_reads' hR12).2.2 hb14) (Kd.C_below (Kd.R_reads' hR).2.2 hb14) HLEN.out)
      have hsm : sameN rl rl = true := sameN_yes ⟨rfl, fun _ _ => rfl⟩
      rw [hsm] at HSM2
      have HPJ14 := Aside0.mk (HPJ13.out.below hb14)
      have HB14 := Aside0.mk (HB13.out.trans (hb14.mono HB13.out.size))
      have HY14 := Aside0.mk (Blk.At.new w13 #[.pointer (some ⟨g2, 0, none⟩), .slice none 0 0, .int .i64 0] 70)
      clear hA hT hR hrn13 hm13 hR12 hb14 hsm HRC2 HRO5 HRJ2 HR12
      go_wp2_with fail
      refine HSM2.out.mono ?_
      rintro e w15 ⟨rfl, hd⟩
      have HPJ15 := Aside0.mk (HPJ14.out.below hd.below)
      have HB15 := Aside0.mk (HB14.out.trans (hd.below.mono HB14.out.size))
      have HY15 := Aside0.mk (HY14.out.below hd.below HY14.out.lt)
      obtain ⟨ok15, gv15, hrj⟩ := HPJ15.out.rn
      have HRJ15 := Aside0.mk hrj
      have y0 : w15.cell? ⟨w13.heap.size, 0, none⟩ = some (.pointer (some ⟨g2, 0, none⟩)) := HY15.out.cell 0
      have y1 : w15.cell? ⟨w13.heap.size, 1, none⟩ = some (.slice none 0 0) := HY15.out.cell 1
      have y2 : w15.cell? ⟨w13.heap.size, 2, none⟩ = some (.int .i64 0) := HY15.out.cell 2
      have e0 : w15.cell? ⟨kb, 0, none⟩ = some (.pointer (some ⟨g2, 0, none⟩)) := hrj.c0
      have e1 : w15.cell? ⟨kb, 1, none⟩ = some gv15 := hrj.c1
      have e2 : w15.cell? ⟨kb, 2, none⟩ = some (.int .i64 J2.many) := hrj.c2
      have f0 : w15.frozen? ⟨kb, 0, none⟩ = false := hrj.blk.frozen 0
      have f1 : w15.frozen? ⟨kb, 1, none⟩ = false := hrj.blk.frozen 1
      have f2 : w15.frozen? ⟨kb, 2, none⟩ = false := hrj.blk.frozen 2
      clear hd hrj HSM2
      go_wp2_with fail
      refine start_ (n := 4) (S := fun w' => w'.cell? ⟨w13.heap.size, 0, none⟩ = some (.pointer (some ⟨g2, 0, none⟩)) ∧ w'.cell? ⟨w13.heap.size, 1, none⟩ = some (.slice none 0 0) ∧ w'.cell? ⟨w13.heap.size, 2, none⟩ = some (.int .i64 0)) (ds := [3]) (bl 4 0x0) (by as_aux_lemma => kernel_rfl) rfl (by as_aux_lemma => kernel_rfl) ⟨y0, y1, y2⟩ (fun hHeld => ?_)
      refine pu 0 (some 164) (bl 4 0x1) ?_
      refine pu 2 (some 9) (bl 4 0x5) ?_
      refine tk 1 (some 165) (bl 4 0x7) hHeld ?_
      refine last_ (i := 3) (N := none) (bl 4 0xf) rfl rfl (by as_aux_lemma => kernel_rfl) (by decide) (fun K hK => ?_)
      refine skip_ (w1 := ?_) (by rfl) rfl ?_ ?_
      rotate_left
      · go_simp
        rfl
      refine hK.out _ _ ?_
      clear hK K
      refine done_ (by as_aux_lemma => kernel_rfl) ?_
      have hres := HRJ15.out.reset i4
      obtain ⟨T16_, hT16⟩ : ∃ T16_ : Nat → Prop, T16_ = fun k => T11 k ∨ (w12.heap.size ≤ k ∧ k < w13.heap.size) := ⟨_, rfl⟩
      have hmv := ((mv_set (S := fun k => T11 k ∨ (w12.heap.size ≤ k ∧ k < w13.heap.size)) (W := w15) (i := 0) (v := .pointer (some ⟨g2, 0, none⟩)) HRJ15.out.sk).trans (mv_set (i := 1) (v := .slice none 0 0) HRJ15.out.sk)).trans (mv_set (i := 2) (v := .int .i64 0) HRJ15.out.sk)
      have hpj := HPJ15.out.two HB15.out.size hmv ⟨_, _, hres⟩
      have hbb := HPJ15.out.base2 HB15.out.size hmv HB15.out
      obtain ⟨w16, hw16⟩ : ∃ w16, w16 = (((w15.setCell ⟨kb, 0, none⟩ (.pointer (some ⟨g2, 0, none⟩))).setCell ⟨kb, 1, none⟩ (.slice none 0 0)).setCell ⟨kb, 2, none⟩ (.int .i64 0)).drew := ⟨_, rfl⟩
      rw [← hw16]
      have hdd := below_drew (Below.refl (((w15.setCell ⟨kb, 0, none⟩ (.pointer (some ⟨g2, 0, none⟩))).setCell ⟨kb, 1, none⟩ (.slice none 0 0)).setCell ⟨kb, 2, none⟩ (.int .i64 0)).heap.size (((w15.setCell ⟨kb, 0, none⟩ (.pointer (some ⟨g2, 0, none⟩))).setCell ⟨kb, 1, none⟩ (.slice none 0 0)).setCell ⟨kb, 2, none⟩ (.int .i64 0)))
      have hpj2 := hpj.below hdd
      have hbb2 := hbb.trans (hdd.mono hbb.size)
      rw [← hw16] at hpj2 hbb2
      rw [← hT16] at hpj2
      obtain ⟨J5, hJ5⟩ : ∃ J5 : J, J5 = ⟨i4, [], 0⟩ := ⟨_, rfl⟩
      rw [← hJ5] at HPI5
      have HPJ16 := Aside0.mk (show PJ w.heap.size S12 T16_ g jb2 g2 kb D5 J5 D5 J5 w16 by rw [hJ5]; exact hpj2)
      have HB16 := Aside0.mk hbb2
      clear hT16 hres hmv hpj hbb hdd hpj2 hbb2 hw16 hJ5 y0 y1 y2 e0 e1 e2 f0 f1 f2 HRJ15 HPJ15 HB15 HY15
      go_wp2_with fail
      go_meet
      case rel => exact ⟨jb2, S12, T16_, D5, J5, rfl, HPJ16, HPI5, HB16⟩
    case rest =>
    as_aux_lemma =>
    clear HPJ3 HPX HB6 HQ6 HQS5 HQT6 HOO HONf
    obtain ⟨jb3, S5, T6, D5, J5, rfl, HPJ5, HPI5, HB5⟩ := hcut
    have HGF := Aside0.mk HPI5.out.good
    have hrt := dn_Root HPJ5.out.jn.dn HGF.out
    rw [(rd_calm HPI5.out.on false).2.1, (rd_calm HPI5.out.on false).2.2, HPI5.out.root] at hrt
    have HRO := Aside0.mk hrt
    clear hrt
    go_wp2_with fail
    refine HRO.out.mono ?_
    rintro e wc ⟨rfl, rfl⟩
    go_wp2_with fail
    go_loopw [171] (fun vi wi => ∃ m : Nat, m ≤ 2 ∧ vi = .int .i64 m ∧ Aside0 (PJ w.heap.size S5 T6 g jb3 g2 kb D5 J5 D5 J5 wi) ∧ Aside0 (Below w.heap.size w wi)) (fun vi _ => 2 - (intOf vi).toNat)
    case atStart => exact ⟨0, by decide, rfl, HPJ5, HB5⟩
    case round =>
      clear HRO
      obtain ⟨m, hm2, rfl, HPI2, HBI⟩ := hrel
      have hcal := fun i => (rd_calm HPI5.out.on i).1
      have hrE := (rd_calm HPI5.out.on false).2.1
      rcases m with _ | _ | _ | m
      · have hrd := dn_Read HPI2.out.jn.dn HGF.out false
        rw [hcal false, hrE, show (D5.fl false).now = D5.a.now from rfl] at hrd
        simp only [iv] at hrd
        have HRD := Aside0.mk hrd
        have en2 : wrap64 (0 + 1 : Int) = 1 := by unfold wrap64; decide
        clear hrd
        go_wp2_with fail
        refine HRD.out.mono ?_
        rintro e w9 ⟨A9, c9, rfl, ho9, hb9⟩
        have HPJ9 := Aside0.mk (HPI2.out.below hb9)
        have HB9 := Aside0.mk (HBI.out.trans (hb9.mono HBI.out.size))
        obtain ⟨A0, c0_, A2, c2_, hc0, hc3, hc6, hC0, hC2⟩ := HPJ9.out.rn.c8
        obtain ⟨S0, hS0⟩ : ∃ S0, S0 = strOfNums D5.a.now := ⟨_, rfl⟩
        have hC9 := (Kd.R_reads' ho9).2.2
        have CV := Aside0.mk (show (∀ W, Below w9.heap.size w9 W → (convert 22 9 (.slice A9 D5.a.now.length c9)).run Try.prog W = .ok (.string S0) W ∧ (convert 22 9 (.slice A0 D5.a.now.length c0_)).run Try.prog W = .ok (.string S0) W) from fun W hW => ⟨by rw [hS0]; exact Kd.C_string (P := Try.prog) Try.underlying22 Try.underlying5 Try.underlying9 (Kd.C_below hC9 hW), by rw [hS0]; exact Kd.C_string (P := Try.prog) Try.underlying22 Try.underlying5 Try.underlying9 (Kd.C_below hC0 hW)⟩)
        clear ho9 hb9 hC0 hC2 hC9 hS0 HRD
        go_wp2_with fail
        refine start_ (n := 9) (S := fun w' => w'.cell? ⟨g2, 0, none⟩ = some (.slice A0 D5.a.now.length c0_) ∧ (convert 22 9 (.slice A9 D5.a.now.length c9)).run Try.prog w' = .ok (.string S0) w' ∧ (convert 22 9 (.slice A0 D5.a.now.length c0_)).run Try.prog w' = .ok (.string S0) w') (ds := []) (bl 9 0x0) (by as_aux_lemma => kernel_rfl) rfl (by as_aux_lemma => kernel_rfl) ⟨hc0, (CV.out _ (below_drew (Below.refl _ _))).1, (CV.out _ (below_drew (Below.refl _ _))).2⟩ (fun hHeld => ?_)
        refine pu 0 (some 180) (bl 9 0x1) ?_
        refine pu 2 (some 182) (bl 9 0x5) ?_
        refine pu 3 (some 183) (bl 9 0xd) ?_
        refine pu 4 (some 184) (bl 9 0x1d) ?_
        refine pu 5 (some 185) (bl 9 0x3d) ?_
        refine tk 1 (some 181) (bl 9 0x3f) hHeld ?_
        refine tk 6 (some 186) (bl 9 0x7f) hHeld ?_
        refine tk 7 (some 187) (bl 9 0xff) hHeld ?_
        refine pu 8 (some 188) (bl 9 0x1ff) ?_
        refine done_ (by as_aux_lemma => kernel_rfl) ?_
        go_wp2_with fail
        go_roundw
        case rel => exact ⟨1, by decide, rfl, ⟨HPJ9.out.below (below_drew (Below.refl _ _))⟩, ⟨HB9.out.trans ((below_drew (Below.refl _ _)).mono HB9.out.size)⟩⟩
        case measure => simp [intOf]
      · have hrd := dn_Read HPI2.out.jn.dn HGF.out true
        rw [hcal true, hrE, show (D5.fl true).now = D5.b.now from rfl] at hrd
        simp only [iv] at hrd
        have HRD := Aside0.mk hrd
        have en2 : wrap64 (1 + 1 : Int) = 2 := by unfold wrap64; decide
        clear hrd
        go_wp2_with fail
        refine HRD.out.mono ?_
        rintro e w9 ⟨A9, c9, rfl, ho9, hb9⟩
        have HPJ9 := Aside0.mk (HPI2.out.below hb9)
        have HB9 := Aside0.mk (HBI.out.trans (hb9.mono HBI.out.size))
        obtain ⟨A0, c0_, A2, c2_, hc0, hc3, hc6, hC0, hC2⟩ := HPJ9.out.rn.c8
        obtain ⟨S0, hS0⟩ : ∃ S0, S0 = strOfNums D5.b.now := ⟨_, rfl⟩
        have hC9 := (Kd.R_reads' ho9).2.2
        have CV := Aside0.mk (show (∀ W, Below w9.heap.size w9 W → (convert 22 9 (.slice A9 D5.b.now.length c9)).run Try.prog W = .ok (.string S0) W ∧ (convert 22 9 (.slice A2 D5.b.now.length c2_)).run Try.prog W = .ok (.string S0) W) from fun W hW => ⟨by rw [hS0]; exact Kd.C_string (P := Try.prog) Try.underlying22 Try.underlying5 Try.underlying9 (Kd.C_below hC9 hW), by rw [hS0]; exact Kd.C_string (P := Try.prog) Try.underlying22 Try.underlying5 Try.underlying9 (Kd.C_below hC2 hW)⟩)
        clear ho9 hb9 hC0 hC2 hC9 hS0 HRD
        go_wp2_with fail
        refine start_ (n := 9) (S := fun w' => w'.cell? ⟨g2, 3, none⟩ = some (.slice A2 D5.b.now.length c2_) ∧ (convert 22 9 (.slice A9 D5.b.now.length c9)).run Try.prog w' = .ok (.string S0) w' ∧ (convert 22 9 (.slice A2 D5.b.now.length c2_)).run Try.prog w' = .ok (.string S0) w') (ds := []) (bl 9 0x0) (by as_aux_lemma => kernel_rfl) rfl (by as_aux_lemma => kernel_rfl) ⟨hc3, (CV.out _ (below_drew (Below.refl _ _))).1, (CV.out _ (below_drew (Below.refl _ _))).2⟩ (fun hHeld => ?_)
        refine pu 0 (some 180) (bl 9 0x1) ?_
        refine pu 2 (some 182) (bl 9 0x5) ?_
        refine pu 3 (some 183) (bl 9 0xd) ?_
        refine pu 4 (some 184) (bl 9 0x1d) ?_
        refine pu 5 (some 185) (bl 9 0x3d) ?_
        refine tk 1 (some 181) (bl 9 0x3f) hHeld ?_
        refine tk 6 (some 186) (bl 9 0x7f) hHeld ?_
        refine tk 7 (some 187) (bl 9 0xff) hHeld ?_
        refine pu 8 (some 188) (bl 9 0x1ff) ?_
        refine done_ (by as_aux_lemma => kernel_rfl) ?_
        go_wp2_with fail
        go_roundw
        case rel => exact ⟨2, by decide, rfl, ⟨HPJ9.out.below (below_drew (Below.refl _ _))⟩, ⟨HB9.out.trans ((below_drew (Below.refl _ _)).mono HB9.out.size)⟩⟩
        case measure => simp [intOf]
      · obtain ⟨lv, hlv⟩ : ∃ lv, lv = J5.live := ⟨_, rfl⟩
        have HLV := Aside0.mk hlv
        rw [← hlv]
        have hrt0 : D5.root = iv lv := by rw [hlv]; exact HPI5.out.root
        clear hlv
        cases lv
        · simp only [iv] at *
          obtain ⟨A0, c0_, A2, c2_, hc0, hc3, hc6, hC0, hC2⟩ := HPI2.out.rn.c8
          rw [hrt0] at hc6
          have HLF := Aside0.mk (jLeft.calls (HPI2.out.jn.below (below_drew (Below.refl _ _))) HGF.out)
          have HSZ := Aside0.mk (show ∀ W, Jn S5 g jb3 D5 J5 W → Calls Try.prog 25 #[.pointer (some ⟨jb3, 0, none⟩)] W fun e w' => e = .returned (.int .i64 (D5.a.now.length : Int)) ∧ Below W.heap.size W w' from fun W hJ => by
            have := jSize.calls hJ HGF.out
            rw [← HLV.out, hcal false] at this
            exact this)
          clear hC0 hC2 hrt0
          go_wp2_with fail
          refine start_ (n := 22) (S := fun w' => w'.cell? ⟨g2, 6, none⟩ = some (.int .i64 0) ∧ w'.cell? ⟨g2, 0, none⟩ = some (.slice A0 D5.a.now.length c0_)) (ds := []) (bl 22 0x0) (by as_aux_lemma => kernel_rfl) rfl (by as_aux_lemma => kernel_rfl) ⟨hc6, hc0⟩ (fun hHeld => ?_)
          refine pu 0 (some 190) (bl 22 0x1) ?_
          refine pu 1 (some 191) (bl 22 0x3) ?_
          refine tk 2 (some 192) (bl 22 0x7) hHeld ?_
          refine pu 3 (some 193) (bl 22 0xf) ?_
          refine pu 4 (some 194) (bl 22 0x1f) ?_
          refine pu 5 (some 195) (bl 22 0x3f) ?_
          refine one_ (i := 6) (N := some 196) (bl 22 0x7f) rfl rfl (by as_aux_lemma => kernel_rfl) (by decide) (fun K hK => ?_)
          refine goes_ Try.func27 (by as_aux_lemma => kernel_rfl) rfl #[.pointer (some ⟨jb3, 0, none⟩)] (by rfl) rfl rfl (by simp only [List.map_toArray, List.map_cons, List.map_nil]; rfl) ?_
          with_reducible refine (HLF.out).mono ?_
          rintro e wL ⟨rfl, hb_⟩
          refine ⟨_, rfl, ?_⟩
          have HBL := Aside0.mk ((below_drew (Below.refl _ _)).trans hb_)
          have HPL := Aside0.mk (HPI2.out.below HBL.out)
          have HRL := Aside0.mk (show Calls Try.prog 36 #[.pointer (some ⟨g2, 0, none⟩)] wL fun e w2 => e = .returned (.int .i64 (leftN D5)) ∧ w2 = wL.drew from by obtain ⟨_, _, hh⟩ := HPL.out.rn; exact rLeft.calls hh.at_ HGF.out.room)
          have HSZ2 := Aside0.mk (HSZ.out wL.drew (HPL.out.jn.below (below_drew (Below.refl _ _))))
          have m6 := pw_cell_below HBL.out hc6
          have m0 := pw_cell_below HBL.out hc0
          clear hb_
          refine hK.out _ _ ⟨m6, m0⟩ (fun hHeld => ?_)
          clear hK K
          refine norm_ (a' := ?_) ?_ ?_
          rotate_left
          · show Act.put _ (some 196) _ = _
            simp only [Act.put, List.setIfInBounds_toArray, List.set_cons_zero, List.set_cons_succ, i64_w, i32_w]
            rfl
          refine one_ (i := 7) (N := some 197) (bl 22 0xff) rfl rfl (by as_aux_lemma => kernel_rfl) (by decide) (fun K hK => ?_)
          refine goes_ Try.func36 (by as_aux_lemma => kernel_rfl) rfl #[.pointer (some ⟨g2, 0, none⟩)] (by rfl) rfl rfl (by simp only [List.map_toArray, List.map_cons, List.map_nil]; rfl) ?_
          with_reducible refine (HRL.out).mono ?_
          rintro e wR ⟨rfl, rfl⟩
          refine ⟨_, rfl, ?_⟩
          refine hK.out _ _ ⟨m6, m0⟩ (fun hHeld => ?_)
          clear hK K
          refine norm_ (a' := ?_) ?_ ?_
          rotate_left
          · show Act.put _ (some 197) _ = _
            simp only [Act.put, List.setIfInBounds_toArray, List.set_cons_zero, List.set_cons_succ, i64_w, i32_w]
            rfl
          refine pu 8 (some 198) (bl 22 0x1ff) ?_
          refine pu 9 (some 199) (bl 22 0x3ff) ?_
          refine pu 10 (some 200) (bl 22 0x7ff) ?_
          refine pu 11 (some 201) (bl 22 0xfff) ?_
          refine pu 13 (some 203) (bl 22 0x2fff) ?_
          refine pu 15 (some 205) (bl 22 0xafff) ?_
          refine tk 14 (some 204) (bl 22 0xefff) hHeld ?_
          refine pu 16 (some 206) (bl 22 0x1efff) ?_
          refine pu 17 (some 207) (bl 22 0x3efff) ?_
          refine tk 18 (some 208) (bl 22 0x7efff) hHeld ?_
          refine pu 19 (some 209) (bl 22 0xfefff) ?_
          refine one_ (i := 12) (N := some 202) (bl 22 0xfffff) rfl rfl (by as_aux_lemma => kernel_rfl) (by decide) (fun K hK => ?_)
          refine goes_ Try.func25 (by as_aux_lemma => kernel_rfl) rfl #[.pointer (some ⟨jb3, 0, none⟩)] (by rfl) rfl rfl (by simp only [List.map_toArray, List.map_cons, List.map_nil]; rfl) ?_
          with_reducible refine (HSZ2.out).mono ?_
          rintro e wS ⟨rfl, hb_⟩
          refine ⟨_, rfl, ?_⟩
          have HBS := Aside0.mk ((below_drew (Below.refl wL.heap.size wL)).trans hb_)
          clear hb_
          refine hK.out _ _ ⟨pw_cell_below HBS.out m6, pw_cell_below HBS.out m0⟩ (fun hHeld => ?_)
          clear hK K
          refine norm_ (a' := ?_) ?_ ?_
          rotate_left
          · show Act.put _ (some 202) _ = _
            simp only [Act.put, List.setIfInBounds_toArray, List.set_cons_zero, List.set_cons_succ, i64_w, i32_w]
            rfl
          refine pu 20 (some 210) (bl 22 0x1fffff) ?_
          refine pu 21 (some 211) (bl 22 0x3fffff) ?_
          refine done_ (by as_aux_lemma => kernel_rfl) ?_
          have HPS := Aside0.mk (HPL.out.below HBS.out)
          have HBSS := Aside0.mk (show Below w.heap.size w wS from (HBI.out.trans (HBL.out.mono HBI.out.size)).trans (HBS.out.mono (Nat.le_trans HBI.out.size HBL.out.size)))
          go_wp2_with fail
          rw [en]
          go_roundw
          case rel => exact ⟨n + 1, jb3, by omega, rfl, rfl, ⟨D5, J5, S5, T6, ⟨HPI5.out, HPS.out⟩⟩, HBSS⟩
          case measure => simp [intOf]; omega
        · simp only [iv] at *
          obtain ⟨A0, c0_, A2, c2_, hc0, hc3, hc6, hC0, hC2⟩ := HPI2.out.rn.c8
          rw [hrt0] at hc6
          have HLF := Aside0.mk (jLeft.calls (HPI2.out.jn.below (below_drew (Below.refl _ _))) HGF.out)
          have HSZ := Aside0.mk (show ∀ W, Jn S5 g jb3 D5 J5 W → Calls Try.prog 25 #[.pointer (some ⟨jb3, 0, none⟩)] W fun e w' => e = .returned (.int .i64 (D5.b.now.length : Int)) ∧ Below W.heap.size W w' from fun W hJ => by
            have := jSize.calls hJ HGF.out
            rw [← HLV.out, hcal true] at this
            exact this)
          clear hC0 hC2 hrt0
          go_wp2_with fail
          refine start_ (n := 22) (S := fun w' => w'.cell? ⟨g2, 6, none⟩ = some (.int .i64 1) ∧ w'.cell? ⟨g2, 3, none⟩ = some (.slice A2 D5.b.now.length c2_)) (ds := []) (bl 22 0x0) (by as_aux_lemma => kernel_rfl) rfl (by as_aux_lemma => kernel_rfl) ⟨hc6, hc3⟩ (fun hHeld => ?_)
          refine pu 0 (some 190) (bl 22 0x1) ?_
          refine pu 1 (some 191) (bl 22 0x3) ?_
          refine tk 2 (some 192) (bl 22 0x7) hHeld ?_
          refine pu 3 (some 193) (bl 22 0xf) ?_
          refine pu 4 (some 194) (bl 22 0x1f) ?_
          refine pu 5 (some 195) (bl 22 0x3f) ?_
          refine one_ (i := 6) (N := some 196) (bl 22 0x7f) rfl rfl (by as_aux_lemma => kernel_rfl) (by decide) (fun K hK => ?_)
          refine goes_ Try.func27 (by as_aux_lemma => kernel_rfl) rfl #[.pointer (some ⟨jb3, 0, none⟩)] (by rfl) rfl rfl (by simp only [List.map_toArray, List.map_cons, List.map_nil]; rfl) ?_
          with_reducible refine (HLF.out).mono ?_
          rintro e wL ⟨rfl, hb_⟩
          refine ⟨_, rfl, ?_⟩
          have HBL := Aside0.mk ((below_drew (Below.refl _ _)).trans hb_)
          have HPL := Aside0.mk (HPI2.out.below HBL.out)
          have HRL := Aside0.mk (show Calls Try.prog 36 #[.pointer (some ⟨g2, 0, none⟩)] wL fun e w2 => e = .returned (.int .i64 (leftN D5)) ∧ w2 = wL.drew from by obtain ⟨_, _, hh⟩ := HPL.out.rn; exact rLeft.calls hh.at_ HGF.out.room)
          have HSZ2 := Aside0.mk (HSZ.out wL.drew (HPL.out.jn.below (below_drew (Below.refl _ _))))
          have m6 := pw_cell_below HBL.out hc6
          have m0 := pw_cell_below HBL.out hc3
          clear hb_
          refine hK.out _ _ ⟨m6, m0⟩ (fun hHeld => ?_)
          clear hK K
          refine norm_ (a' := ?_) ?_ ?_
          rotate_left
          · show Act.put _ (some 196) _ = _
            simp only [Act.put, List.setIfInBounds_toArray, List.set_cons_zero, List.set_cons_succ, i64_w, i32_w]
            rfl
          refine one_ (i := 7) (N := some 197) (bl 22 0xff) rfl rfl (by as_aux_lemma => kernel_rfl) (by decide) (fun K hK => ?_)
          refine goes_ Try.func36 (by as_aux_lemma => kernel_rfl) rfl #[.pointer (some ⟨g2, 0, none⟩)] (by rfl) rfl rfl (by simp only [List.map_toArray, List.map_cons, List.map_nil]; rfl) ?_
          with_reducible refine (HRL.out).mono ?_
          rintro e wR ⟨rfl, rfl⟩
          refine ⟨_, rfl, ?_⟩
          refine hK.out _ _ ⟨m6, m0⟩ (fun hHeld => ?_)
          clear hK K
          refine norm_ (a' := ?_) ?_ ?_
          rotate_left
          · show Act.put _ (some 197) _ = _
            simp only [Act.put, List.setIfInBounds_toArray, List.set_cons_zero, List.set_cons_succ, i64_w, i32_w]
            rfl
          refine pu 8 (some 198) (bl 22 0x1ff) ?_
          refine pu 9 (some 199) (bl 22 0x3ff) ?_
          refine pu 10 (some 200) (bl 22 0x7ff) ?_
          refine pu 11 (some 201) (bl 22 0xfff) ?_
          refine pu 13 (some 203) (bl 22 0x2fff) ?_
          refine pu 15 (some 205) (bl 22 0xafff) ?_
          refine tk 14 (some 204) (bl 22 0xefff) hHeld ?_
          refine pu 16 (some 206) (bl 22 0x1efff) ?_
          refine pu 17 (some 207) (bl 22 0x3efff) ?_
          refine tk 18 (some 208) (bl 22 0x7efff) hHeld ?_
          refine pu 19 (some 209) (bl 22 0xfefff) ?_
          refine one_ (i := 12) (N := some 202) (bl 22 0xfffff) rfl rfl (by as_aux_lemma => kernel_rfl) (by decide) (fun K hK => ?_)
          refine goes_ Try.func25 (by as_aux_lemma => kernel_rfl) rfl #[.pointer (some ⟨jb3, 0, none⟩)] (by rfl) rfl rfl (by simp only [List.map_toArray, List.map_cons, List.map_nil]; rfl) ?_
          with_reducible refine (HSZ2.out).mono ?_
          rintro e wS ⟨rfl, hb_⟩
          refine ⟨_, rfl, ?_⟩
          have HBS := Aside0.mk ((below_drew (Below.refl wL.heap.size wL)).trans hb_)
          clear hb_
          refine hK.out _ _ ⟨pw_cell_below HBS.out m6, pw_cell_below HBS.out m0⟩ (fun hHeld => ?_)
          clear hK K
          refine norm_ (a' := ?_) ?_ ?_
          rotate_left
          · show Act.put _ (some 202) _ = _
            simp only [Act.put, List.setIfInBounds_toArray, List.set_cons_zero, List.set_cons_succ, i64_w, i32_w]
            rfl
          refine pu 20 (some 210) (bl 22 0x1fffff) ?_
          refine pu 21 (some 211) (bl 22 0x3fffff) ?_
          refine done_ (by as_aux_lemma => kernel_rfl) ?_
          have HPS := Aside0.mk (HPL.out.below HBS.out)
          have HBSS := Aside0.mk (show Below w.heap.size w wS from (HBI.out.trans (HBL.out.mono HBI.out.size)).trans (HBS.out.mono (Nat.le_trans HBI.out.size HBL.out.size)))
          go_wp2_with fail
          rw [en]
          go_roundw
          case rel => exact ⟨n + 1, jb3, by omega, rfl, rfl, ⟨D5, J5, S5, T6, ⟨HPI5.out, HPS.out⟩⟩, HBSS⟩
          case measure => simp [intOf]; omega
      · omega
end
end Go.Proofs.Ytdlfabbhdelinaa.Q
