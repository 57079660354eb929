/- A journal's law of what is kept, walked. No condition but those typed. -/
import Derived.Test.YtdlfabbhdelinaaWalk0
import Derived.Test.YtdlfabbhdelinaaDisk09
import Derived.Test.YtdlfabbhdelinaaJw6
import Derived.Outline
namespace Go.Proofs.Ytdlfabbhdelinaa.Q
open Go.RowKit Go.Proofs.YtdlfabbhdelinaaW.PrintWords Go.Proofs.YtdlfabbhdelinaaW.PrintLast Go.Proofs.YtdlfabbhdelinaaW.PrintMore
open Go.Proofs.Ytdlfabbhdelinaa.Dk
attribute [local go_sem] max2_int min2_int max_two min_two max_three min_three max_four min_four   -- for this text's walks alone
set_option linter.unusedVariables false
set_option linter.unusedSimpArgs false
set_option maxRecDepth 100000
/-- Between two calls, the power on: what is committed, the group. -/
structure KI (sur grp : List (List Int)) (d : D) (j : J) : Prop where
  good : Good d
  on : d.off = false
  root : d.root = 0
  a : d.a = ⟨flat sur, flat sur, -1⟩
  b : d.b = ⟨[], [], -1⟩
  j : j = ⟨false, flat grp, (grp.length : Int)⟩
  oks : allOk sur
  okg : allOk grp
/-- Behind a loss of power; z: no call was under way. -/
structure KX (sur grp : List (List Int)) (d : D) (z : Bool) : Prop where
  good : Good d
  off : d.off = true
  root : d.root = 0
  a : ∃ s q, d.a = ⟨flat s ++ q, flat s, -1⟩ ∧ ((s = sur ∧ (q = [] ∨ (q = flat grp ∧ z = false))) ∨ (s = sur ++ grp ∧ q = [] ∧ z = false))
  b : d.b = ⟨[], [], -1⟩
  oks : allOk sur
  okg : allOk grp
theorem ok_append {l m : List (List Int)} (h : allOk l) (k : allOk m) : allOk (l ++ m) := fun r hr => (List.mem_append.1 hr).elim (h r) (k r)
theorem ok_take {l : List (List Int)} (h : allOk l) (n : Nat) : allOk (l.take n) := fun r hr => h r (List.mem_of_mem_take hr)
theorem frs_ok {l : List (List Int)} {x : Int} {d : D} (h : frsE l x d = 0) : allOk l := by
  by_cases hk : allOk l
  · exact hk
  · have : frsE l x d = 1 := if_neg hk
    omega
theorem ki_add {sur grp : List (List Int)} {d : D} {j : J} (h : KI sur grp d j) (l : List (List Int)) : (frsE l (j.group.length : Int) d = 0 → KI sur (grp ++ l) d (addJ l d j)) ∧ (frsE l (j.group.length : Int) d ≠ 0 → addJ l d j = j) := by
  refine ⟨fun he => ?_, fun he => if_neg he⟩
  have e : addJ l d j = ⟨j.live, j.group ++ flat l, j.many + l.length⟩ := if_pos he
  refine ⟨h.good, h.on, h.root, h.a, h.b, ?_, h.oks, ok_append h.okg (frs_ok he)⟩
  rw [e, h.j, Jr.flat_append, List.length_append]
  simp
theorem ki_arm {sur grp : List (List Int)} {d : D} {j : J} (h : KI sur grp d j) {n : Int} (hn : n < 9223372036854775808) (b : Bool) : KI sur grp (armD n b d) j := ⟨good_arm h.good b hn, h.on, h.root, h.a, h.b, h.j, h.oks, h.okg⟩
theorem ki_drop {sur grp : List (List Int)} {d : D} {j : J} (h : KI sur grp d j) : KI sur [] d ⟨false, [], 0⟩ := ⟨h.good, h.on, h.root, h.a, h.b, rfl, h.oks, fun _ hr => by cases hr⟩
theorem ki_fail {sur grp : List (List Int)} {d : D} {j : J} (h : KI sur grp d j) : KX sur grp (offD d) true := ⟨good_offD h.good, rfl, h.root, ⟨sur, [], by rw [List.append_nil]; exact h.a, .inl ⟨rfl, .inl rfl⟩⟩, h.b, h.oks, h.okg⟩
/-- What one act does, by the fuse: done; or the power goes, with it or without. -/
theorem act_out {d : D} (ho : d.off = false) {dof : D → D} (hoff : ∀ d, (dof d).off = d.off) :
    (actE 0 d = 0 ∧ ∃ f, actD 0 dof d = dof { d with fuse := f } ∧ (actD 0 dof d).off = false) ∨ (actE 0 d = 12 ∧ ∃ f, actD 0 dof d = dof { d with off := true, fuse := f } ∨ actD 0 dof d = { d with off := true, fuse := f }) := by
  have e2 : d = { d with fuse := d.fuse } := rfl
  have eE : actE 0 d = if d.fuse = 0 then 12 else 0 := if_neg (by decide)
  have eD : actD 0 dof d = if 0 < d.fuse then dof { d with fuse := d.fuse - 1 } else if d.fuse = 0 then (if d.behind = true then dof { d with off := true, fuse := -1 } else { d with off := true, fuse := -1 }) else dof d := if_neg (by decide)
  rw [eE, eD]
  by_cases h1 : 0 < d.fuse
  · rw [if_pos h1, if_neg (show ¬ d.fuse = 0 by omega)]
    exact .inl ⟨rfl, _, rfl, (hoff _).trans ho⟩
  rw [if_neg h1]
  by_cases h2 : d.fuse = 0
  · rw [if_pos h2, if_pos h2]
    refine .inr ⟨rfl, -1, ?_⟩
    split
    · exact .inl rfl
    · exact .inr rfl
  · rw [if_neg h2, if_neg h2]
    exact .inl ⟨rfl, d.fuse, rfl, (hoff _).trans ho⟩
theorem ki_com {sur grp : List (List Int)} {d : D} {j : J} (h : KI sur grp d j) :
    (comE d j = 0 ∧ KI (sur ++ grp) [] (comD d j) (comJ d j)) ∨ (comE d j ≠ 0 ∧ KI sur grp (comD d j) (comJ d j)) ∨ (comE d j ≠ 0 ∧ KX sur grp (comD d j) false) := by
  have hgc := good_comD (j := j) h.good
  obtain ⟨hg, ho, hr, ha, hb, rfl, hs, hk⟩ := h
  by_cases h0 : (grp.length : Int) = 0
  · have hl : grp = [] := List.eq_nil_of_length_eq_zero (by omega)
    subst hl
    have e1 : comE d ⟨false, flat [], (([] : List (List Int)).length : Int)⟩ = 0 := if_pos rfl
    have e2 : comD d ⟨false, flat [], (([] : List (List Int)).length : Int)⟩ = d := if_pos rfl
    have e3 : comJ d ⟨false, flat [], (([] : List (List Int)).length : Int)⟩ = ⟨false, flat [], (([] : List (List Int)).length : Int)⟩ := if_pos rfl
    rw [e1, e2, e3, List.append_nil]
    exact .inl ⟨rfl, hg, ho, hr, ha, hb, rfl, hs, hk⟩
  have e1 : comE d ⟨false, flat grp, (grp.length : Int)⟩ = if apE (iv false) (flat grp) d ≠ 0 then apE (iv false) (flat grp) d else syE (iv false) (apD (iv false) (flat grp) d) := if_neg h0
  have e2 : comD d ⟨false, flat grp, (grp.length : Int)⟩ = if apE (iv false) (flat grp) d ≠ 0 then apD (iv false) (flat grp) d else syD (iv false) (apD (iv false) (flat grp) d) := if_neg h0
  have e3 : comJ d ⟨false, flat grp, (grp.length : Int)⟩ = if apE (iv false) (flat grp) d ≠ 0 then ⟨false, flat grp, (grp.length : Int)⟩ else if syE (iv false) (apD (iv false) (flat grp) d) ≠ 0 then ⟨false, flat grp, (grp.length : Int)⟩ else ⟨false, [], 0⟩ := if_neg h0
  rw [e2] at hgc
  rw [e1, e2, e3]
  rcases room1_cases d (flat grp).length with hm | hm
  · rw [(ap_on ho false hm).1, (ap_on ho false hm).2] at hgc ⊢
    rcases act_out ho (dof := app false (flat grp)) (fun _ => rfl) with ⟨he, f, hd, ho2⟩ | ⟨he, f, hd⟩
    · rw [he, if_neg (by decide)] at hgc
      rw [he, if_neg (by decide), if_neg (by decide), if_neg (by decide)]
      have ha2 : (actD 0 (app false (flat grp)) d).a = ⟨flat sur ++ flat grp, flat sur, -1⟩ := by
        rw [hd]
        show (⟨d.a.now ++ flat grp, d.a.sure, d.a.cut⟩ : Fl) = _
        rw [ha]
      have hb2 : (actD 0 (app false (flat grp)) d).b = ⟨[], [], -1⟩ := by rw [hd]; exact hb
      have hr2 : (actD 0 (app false (flat grp)) d).root = 0 := by rw [hd]; exact hr
      generalize actD 0 (app false (flat grp)) d = d1 at ho2 ha2 hb2 hr2 hgc
      rw [(sy_on ho2 false).1, (sy_on ho2 false).2] at *
      have haS : ∀ f o, (syn false { d1 with fuse := f, off := o }).a = ⟨flat (sur ++ grp), flat (sur ++ grp), -1⟩ := fun f o => by
        show (⟨d1.a.now, d1.a.now, -1⟩ : Fl) = _
        rw [ha2, Jr.flat_append]
      rcases act_out ho2 (dof := syn false) (fun _ => rfl) with ⟨he2, f2, hd2, ho3⟩ | ⟨he2, f2, hd2⟩
      · rw [he2, if_neg (by decide)]
        refine .inl ⟨rfl, hgc, ho3, ?_, ?_, ?_, rfl, ok_append hs hk, fun _ hr => by cases hr⟩
        · rw [hd2]; exact hr2
        · rw [hd2]; exact haS f2 _
        · rw [hd2]; exact hb2
      · rw [he2]
        refine .inr (.inr ⟨by decide, ?_⟩)
        rcases hd2 with hd2 | hd2 <;> rw [hd2] at hgc ⊢
        · exact ⟨hgc, rfl, hr2, ⟨sur ++ grp, [], by rw [List.append_nil]; exact haS f2 true, .inr ⟨rfl, rfl, rfl⟩⟩, hb2, hs, hk⟩
        · exact ⟨hgc, rfl, hr2, ⟨sur, flat grp, ha2, .inl ⟨rfl, .inr ⟨rfl, rfl⟩⟩⟩, hb2, hs, hk⟩
    · rw [he, if_pos (by decide)] at hgc
      rw [he, if_pos (by decide), if_pos (by decide), if_pos (by decide)]
      refine .inr (.inr ⟨by decide, ?_⟩)
      rcases hd with hd | hd <;> rw [hd] at hgc ⊢
      · exact ⟨hgc, rfl, hr, ⟨sur, flat grp, by show (⟨d.a.now ++ flat grp, d.a.sure, d.a.cut⟩ : Fl) = _; rw [ha], .inl ⟨rfl, .inr ⟨rfl, rfl⟩⟩⟩, hb, hs, hk⟩
      · exact ⟨hgc, rfl, hr, ⟨sur, [], by rw [List.append_nil]; exact ha, .inl ⟨rfl, .inl rfl⟩⟩, hb, hs, hk⟩
  · have e4 : apE (iv false) (flat grp) d = 11 := by
      unfold apE gateE actE
      rw [fe_on ho false, hm, if_neg (by decide), if_pos (by decide)]
    have e5 : apD (iv false) (flat grp) d = d := by
      unfold apD gateD actD
      rw [fe_on ho false, hm, if_neg (by decide), if_pos (by decide)]
    rw [e4, e5, if_pos (by decide), if_pos (by decide), if_pos (by decide)]
    exact .inr (.inl ⟨by decide, hg, ho, hr, ha, hb, rfl, hs, hk⟩)
theorem good_tc {d : D} (hg : Good d) (hc : Calm d) (i : Bool) {n : Int} (h0 : 0 ≤ n) (h1 : n ≤ (d.fl i).now.length) : Good (tcD i n d) := by
  rw [← (trim_calm hc.on hc.no i h0 h1).2]
  exact good_trimD hg _ _ _
theorem flat_nil_of {l : List (List Int)} (h : flat l = []) : l = [] := by
  cases l with
  | nil => rfl
  | cons r l =>
    have e : (flat (r :: l)).length = 0 := by rw [h]; rfl
    rw [Jr.flat_cons, List.length_append, frame_len] at e
    omega
/-- The live file's bytes behind the loss. -/
theorem kx_now {sur grp : List (List Int)} {d : D} {z : Bool} (h : KX sur grp d z) (k0 k1 : Int) (c0 c1 : Bool) : ∃ q, q <+: flat grp ∧ (z = true → q = []) ∧ (startD k0 k1 c0 c1 d).a = ⟨flat sur ++ q, flat sur ++ q, -1⟩ := by
  obtain ⟨s, q, ha, hq⟩ := h.a
  have e : (startD k0 k1 c0 c1 d).a = lost k0 c0 d.a := by
    unfold startD
    rw [if_pos h.off]
    rfl
  have el : ∃ m, lost k0 c0 d.a = ⟨flat s ++ q.take m, flat s ++ q.take m, -1⟩ := by
    rw [ha, lost_none rfl]
    unfold lostT
    dsimp only
    rw [List.drop_append_of_le_length (Nat.le_refl _), List.drop_length, List.nil_append]
    exact ⟨_, rfl⟩
  obtain ⟨m, el⟩ := el
  rw [e, el]
  rcases hq with ⟨rfl, rfl | ⟨rfl, hz⟩⟩ | ⟨rfl, rfl, hz⟩
  · exact ⟨[], List.nil_prefix, fun _ => rfl, by simp⟩
  · exact ⟨(flat grp).take m, List.take_prefix _ _, fun hh => (by rw [hz] at hh; cases hh), rfl⟩
  · exact ⟨flat grp, List.prefix_refl _, fun hh => (by rw [hz] at hh; cases hh), by rw [Jr.flat_append]; simp⟩
theorem kx_end {sur grp : List (List Int)} {d : D} {z : Bool} (h : KX sur grp d z) (k0 k1 : Int) (c0 c1 : Bool) :
    startE d = 0 ∧ Good (startD k0 k1 c0 c1 d) ∧ Calm (startD k0 k1 c0 c1 d) ∧ (startD k0 k1 c0 c1 d).root = iv false ∧ ∃ k, k ≤ grp.length ∧ (z = true → grp.take k = []) ∧ Jr.scanF ((startD k0 k1 c0 c1 d).fl false).now = sur ++ grp.take k ∧
      KI (sur ++ grp.take k) [] (openD false (startD k0 k1 c0 c1 d)) ⟨false, [], 0⟩ ∧ openD false (openD false (startD k0 k1 c0 c1 d)) = openD false (startD k0 k1 c0 c1 d) ∧ Jr.scanF ((openD false (startD k0 k1 c0 c1 d)).fl false).now = sur ++ grp.take k := by
  obtain ⟨q, hp, hz, ha⟩ := kx_now h k0 k1 c0 c1
  have hg := good_start h.good k0 k1 c0 c1
  have hE : startE d = 0 := if_pos h.off
  have hS : startD k0 k1 c0 c1 d = strt k0 k1 c0 c1 d := if_pos h.off
  have hc : Calm (startD k0 k1 c0 c1 d) := by rw [hS]; exact ⟨rfl, rfl⟩
  have hr : (startD k0 k1 c0 c1 d).root = 0 := by rw [hS]; exact h.root
  have hb : (startD k0 k1 c0 c1 d).b = ⟨[], [], -1⟩ := by
    rw [hS]
    show lost k1 c1 d.b = _
    rw [h.b, lost_none rfl]
    unfold lostT
    simp
  generalize startD k0 k1 c0 c1 d = d2 at *
  obtain ⟨k, p, hkl, hq, hn⟩ := Jr.part_flat h.okg hp
  have hl : allOk (sur ++ grp.take k) := ok_append h.oks (ok_take h.okg k)
  obtain ⟨l, hle⟩ : ∃ l, l = sur ++ grp.take k := ⟨_, rfl⟩
  have hnow : (d2.fl false).now = flat l ++ p := by
    show d2.a.now = _
    rw [ha, hle, Jr.flat_append, List.append_assoc, ← hq]
  have hsc : Jr.scanF (d2.fl false).now = l := by rw [hnow, hle]; exact Jr.scan_flat hl hn
  have hd3 : ∃ d3, openD false d2 = d3 ∧ d3.a = ⟨flat l, flat l, -1⟩ ∧ d3.b = ⟨[], [], -1⟩ ∧ d3.root = 0 ∧ Calm d3 ∧ Good d3 := by
    have hco := calm_open hc false
    have hsz : (Jr.sz l : Int) = ((flat l).length : Int) := by rw [Jr.flat_sz]
    have h1 : tcD false ((Jr.sz l : Nat) : Int) d2 = tcD false ((flat l).length : Int) d2 := by rw [hsz]
    have hA : (tcD false ((flat l).length : Int) d2).a = ⟨flat l, flat l, -1⟩ ∧ (tcD false ((flat l).length : Int) d2).b = ⟨[], [], -1⟩ ∧ (tcD false ((flat l).length : Int) d2).root = 0 := by
      unfold tcD
      split
      · rename_i hh
        rw [hnow, List.length_append] at hh
        have hp0 : p = [] := List.eq_nil_of_length_eq_zero (by omega)
        refine ⟨?_, hb, hr⟩
        rw [ha]
        have e : flat sur ++ q = flat l := by
          have := hnow
          rw [hp0, List.append_nil] at this
          rw [← this]
          show _ = d2.a.now
          rw [ha]
        rw [e]
      · refine ⟨?_, hb, hr⟩
        show (⟨(d2.fl false).now.take ((flat l).length : Int).toNat, (d2.fl false).now.take ((flat l).length : Int).toNat, -1⟩ : Fl) = _
        rw [hnow, Int.toNat_natCast, List.take_append_of_le_length (Nat.le_refl _), List.take_length]
    have hgt : Good (tcD false ((flat l).length : Int) d2) := good_tc hg hc false (by omega) (by rw [hnow, List.length_append]; omega)
    refine ⟨tcD false ((flat l).length : Int) d2, ?_, hA.1, hA.2.1, hA.2.2, ?_, hgt⟩
    · unfold openD
      rw [hsc, h1]
      exact if_pos (by show ((tcD false ((flat l).length : Int) d2).b.now.length : Int) = 0; rw [hA.2.1]; rfl)
    · have := tc_off false ((flat l).length : Int) d2
      exact ⟨this.1.trans hc.on, this.2.1.trans hc.no⟩
  obtain ⟨d3, hd3, ha3, hb3, hr3, hc3, hg3⟩ := hd3
  have hs3 : Jr.scanF (d3.fl false).now = l := by
    show Jr.scanF d3.a.now = l
    rw [ha3, hle]
    exact Jr.scan_flat0 hl
  refine ⟨hE, hg, hc, hr, k, hkl, fun hh => ?_, by rw [← hle]; exact hsc, ?_, ?_, ?_⟩
  · have h1 := hz hh
    rw [h1] at hq
    exact flat_nil_of (List.append_eq_nil_iff.1 hq.symm).1
  · rw [hd3, ← hle]
    exact ⟨hg3, hc3.on, hr3, ha3, hb3, rfl, by rw [hle]; exact hl, fun _ hr => by cases hr⟩
  · rw [hd3]
    have e1 : tcD false ((Jr.sz l : Nat) : Int) d3 = d3 := if_pos (by show (d3.a.now.length : Int) = _; rw [ha3, ← Jr.flat_sz])
    unfold openD
    rw [hs3, e1]
    exact if_pos (by show (d3.b.now.length : Int) = 0; rw [hb3]; rfl)
  · rw [hd3, ← hle]
    exact hs3
/-- A slice's header. -/
abbrev Hd := Option Addr × Nat × Nat
def hv (h : Hd) : Value := .slice h.1 h.2.1 h.2.2
theorem hv1 : ∀ x : Hd, (hv x).oneCell' = true := fun _ => rfl
abbrev dH : Kd Hd := Kd.scalar hv hv1
/-- What headers stand for. -/
def HV (ok : Nat → Prop) (w : World) (hs : List Hd) (rs : List (List Int)) : Prop := hs.length = rs.length ∧ ∀ (i : Nat) (x : Hd) (r : List Int), hs[i]? = some x → rs[i]? = some r → Vb ok w (hv x) r
namespace HV
variable {ok ok' : Nat → Prop} {w w1 : World} {hs hs' : List Hd} {rs rs' : List (List Int)}
theorem nil (ok : Nat → Prop) (w : World) : HV ok w [] [] := ⟨rfl, fun i h r hh => by simp at hh⟩
theorem append (h : HV ok w hs rs) (k : HV ok w hs' rs') : HV ok w (hs ++ hs') (rs ++ rs') := by
  refine ⟨by rw [List.length_append, List.length_append, h.1, k.1], fun i x r hx hr => ?_⟩
  rcases Nat.lt_or_ge i hs.length with hi | hi
  · rw [List.getElem?_append_left hi] at hx
    rw [List.getElem?_append_left (by rw [← h.1]; exact hi)] at hr
    exact h.2 i x r hx hr
  · rw [List.getElem?_append_right hi] at hx
    rw [List.getElem?_append_right (by rw [← h.1]; exact hi), ← h.1] at hr
    exact k.2 _ x r hx hr
theorem take (h : HV ok w hs rs) (n : Nat) : HV ok w (hs.take n) (rs.take n) := by
  refine ⟨by rw [List.length_take, List.length_take, h.1], fun i x r hx hr => ?_⟩
  rw [List.getElem?_take] at hx hr
  split at hx
  · rename_i hh
    rw [if_pos hh] at hr
    exact h.2 i x r hx hr
  · cases hx
theorem step (h : HV ok w hs rs) (hm : ∀ k, ok k → k < w.heap.size → w1.heap[k]? = w.heap[k]?) : HV ok w1 hs rs := ⟨h.1, fun i x r hx hr => Kd.V_step (h.2 i x r hx hr) hm⟩
theorem mono (h : HV ok w hs rs) (hok : ∀ k, ok k → ok' k) : HV ok' w hs rs := ⟨h.1, fun i x r hx hr => Kd.V_mono (h.2 i x r hx hr) hok⟩
theorem bound (h : HV ok w hs rs) : HV (fun k => ok k ∧ k < w.heap.size) w hs rs := ⟨h.1, fun i x r hx hr => Kd.V_bound (h.2 i x r hx hr)⟩
theorem rows (h : HV ok w hs rs) {A : Option Addr} {n : Nat} (hC : dH.C w A n hs) : (Kd.slice 5 (Kd.int .u8)).C w A n rs := by
  obtain ⟨h1, h2, h3⟩ := hC
  refine ⟨by rw [← h.1]; exact h1, h2, fun h0 => ?_⟩
  obtain ⟨ad, hA, hc⟩ := h3 h0
  refine ⟨ad, hA, fun i r hr => ?_⟩
  have hi : i < hs.length := by rw [h.1]; exact (List.getElem?_eq_some_iff.1 hr).1
  obtain ⟨cs, hl, hK, hcell⟩ := hc i hs[i] (List.getElem?_eq_getElem hi)
  have hV := h.2 i hs[i] r (List.getElem?_eq_getElem hi) hr
  obtain ⟨A', c', e⟩ := Kd.V_slice hV
  have hK' : cs = [hv hs[i]] := hK
  rw [e] at hV hK'
  have hr' := Kd.V_reads' hV
  subst hK'
  exact ⟨_, rfl, ⟨A', c', rfl, hr'.2.1, hr'.2.2⟩, hcell⟩
end HV
theorem heads_of_C {w : World} {A : Option Addr} {n : Nat} {rs : List (List Int)} (h : (Kd.slice 5 (Kd.int .u8)).C w A n rs) : ∃ hs, dH.C w A n hs ∧ HV (fun k => k < w.heap.size) w hs rs := by
  have hex : ∀ i : Nat, ∃ hd : Hd, ∀ r, rs[i]? = some r → (∀ ad, A = some ad → w.cell? (ad.add i) = some (hv hd)) ∧ Vb (fun k => k < w.heap.size) w (hv hd) r := by
    intro i
    by_cases hi : i < rs.length
    · obtain ⟨ad, B, cb, hA, hx, hb, hC⟩ := rows_at h hi
      have e : rs.getD i [] = rs[i] := by rw [List.getD_eq_getElem?_getD, List.getElem?_eq_getElem hi]; rfl
      rw [e] at hx hb hC
      refine ⟨(B, rs[i].length, cb), fun r hr => ?_⟩
      obtain rfl : rs[i] = r := by rw [List.getElem?_eq_getElem hi] at hr; exact Option.some.inj hr
      exact ⟨fun ad' he => by rw [hA] at he; cases he; exact hx, V_arg hC hb⟩
    · exact ⟨(none, 0, 0), fun r hr => absurd (List.getElem?_eq_some_iff.1 hr).1 hi⟩
  obtain ⟨f, hf⟩ := Classical.axiomOfChoice hex
  have hg : ∀ i, i < rs.length → ((List.range rs.length).map f)[i]? = some (f i) := fun i hi => by rw [List.getElem?_map, List.getElem?_range hi]; rfl
  refine ⟨(List.range rs.length).map f, ⟨by simp [h.1], h.2.1, fun h0 => ?_⟩, by simp, fun i x r hx hr => ?_⟩
  · obtain ⟨ad, hA, hc⟩ := h.2.2 h0
    refine ⟨ad, hA, fun i x hx => ⟨[hv x], rfl, rfl, fun j v hj => ?_⟩⟩
    have hi : i < rs.length := by simpa using (List.getElem?_eq_some_iff.1 hx).1
    rw [hg i hi] at hx
    obtain rfl := Option.some.inj hx
    rcases j with _ | j
    · obtain rfl := Option.some.inj hj
      have := ((hf i) rs[i] (List.getElem?_eq_getElem hi)).1 ad hA
      rw [show i * (Kd.scalar hv hv1).sz + 0 = i from by show i * 1 + 0 = i; omega]
      exact this
    · simp at hj
  · have hi : i < rs.length := (List.getElem?_eq_some_iff.1 hr).1
    rw [hg i hi] at hx
    obtain rfl := Option.some.inj hx
    exact ((hf i) r hr).2
def hdOf : Value → Hd
  | .slice A n c => (A, n, c)
  | _ => (none, 0, 0)
theorem heads_of_R {base : Nat} {ok : Nat → Prop} {w : World} {v : Value} {rs : List (List Int)} (h : Rs base ok w v rs) : ∃ hs, dH.R 22 w base ok v hs ∧ HV (fun k => ok k ∧ some k ≠ v.ownBlock) w hs rs := by
  obtain ⟨h0, inner, ho, hl, hr⟩ := h
  have hl' : inner.length = rs.length := by rw [hl]; show rs.length * 1 = _; omega
  have hone : ∀ i (hi : i < inner.length), inner[i] = hv (hdOf inner[i]) ∧ ∀ r, rs[i]? = some r → Vb (fun k => ok k ∧ some k ≠ v.ownBlock) w inner[i] r := by
    intro i hi
    have hi2 : i < rs.length := by omega
    obtain ⟨u, hu, hR⟩ := hr i rs[i] (List.getElem?_eq_getElem hi2)
    have e : (inner.drop (i * (Kd.slice 5 (Kd.int .u8)).sz)).take (Kd.slice 5 (Kd.int .u8)).sz = [inner[i]] := by
      show (inner.drop (i * 1)).take 1 = _
      rw [Nat.mul_one, List.drop_eq_getElem_cons hi]
      rfl
    rw [e] at hu
    obtain rfl : inner[i] = u := by simpa using hu
    obtain ⟨A, c, es⟩ := Kd.R_slice hR
    refine ⟨by rw [es]; rfl, fun r hr' => ?_⟩
    obtain rfl : rs[i] = r := by rw [List.getElem?_eq_getElem hi2] at hr'; exact Option.some.inj hr'
    exact Kd.R_V hR
  have hin : inner = encs hv (inner.map hdOf) := by
    apply List.ext_getElem
    · simp [encs]
    · intro i h1 h2
      simp only [encs, List.getElem_map]
      exact (hone i h1).1
  refine ⟨inner.map hdOf, Kd.R_of_own (h1 := hv1) ?_ h0, ?_⟩
  · rw [← hin, List.length_map, hl']
    exact ho
  · refine ⟨by rw [List.length_map, hl'], fun i x r hx hr' => ?_⟩
    have hi : i < inner.length := by rw [hl']; exact (List.getElem?_eq_some_iff.1 hr').1
    rw [List.getElem?_map, List.getElem?_eq_getElem hi] at hx
    obtain rfl : hdOf inner[i] = x := by simpa using hx
    rw [← (hone i hi).1]
    exact (hone i hi).2 r hr'
/-- The law's own two rows. -/
structure LV (B : Nat) (S : Nat → Prop) (vs vg : Value) (sur grp : List (List Int)) (w : World) : Prop where
  ex : ∃ hs hg, dH.R 22 w B (fun k => ¬ S k) vs hs ∧ dH.R 22 w B (fun k => ¬ S k) vg hg ∧ HV (fun k => ¬ S k ∧ vs.ownBlock ≠ some k ∧ vg.ownBlock ≠ some k) w hs sur ∧ HV (fun k => ¬ S k ∧ vs.ownBlock ≠ some k ∧ vg.ownBlock ≠ some k) w hg grp
  ne : ∀ k, vs.ownBlock = some k → vg.ownBlock ≠ some k
namespace LV
variable {B : Nat} {S S' : Nat → Prop} {vs vg v1 : Value} {sur grp rs : List (List Int)} {w w1 : World}
theorem nil (B : Nat) (S : Nat → Prop) (w : World) : LV B S (.slice none 0 0) (.slice none 0 0) [] [] w :=
  ⟨⟨[], [], Kd.R_nil _ _ _ _ _, Kd.R_nil _ _ _ _ _, HV.nil _ _, HV.nil _ _⟩, fun k hk => by simp [Value.ownBlock] at hk⟩
theorem swap (h : LV B S vs vg sur grp w) : LV B S vg vs grp sur w := by
  obtain ⟨⟨hs, hg, h1, h2, h3, h4⟩, hn⟩ := h
  exact ⟨⟨hg, hs, h2, h1, h4.mono (fun k hk => ⟨hk.1, hk.2.2, hk.2.1⟩), h3.mono (fun k hk => ⟨hk.1, hk.2.2, hk.2.1⟩)⟩, fun k hk hh => hn k hh hk⟩
theorem mv (h : LV B S vs vg sur grp w) (M : Mv S S' w w1) : LV B S' vs vg sur grp w1 := by
  obtain ⟨⟨hs, hg, h1, h2, h3, h4⟩, hn⟩ := h
  have m : ∀ {xs rs}, HV (fun k => ¬ S k ∧ vs.ownBlock ≠ some k ∧ vg.ownBlock ≠ some k) w xs rs → HV (fun k => ¬ S' k ∧ vs.ownBlock ≠ some k ∧ vg.ownBlock ≠ some k) w1 xs rs := fun hh =>
    (hh.bound.step (fun k hk hl => M.keep k hl hk.1.1)).mono (fun k hk => ⟨fun hs' => (M.grow k hs').elim hk.1.1 (fun x => by have := hk.2; omega), hk.1.2⟩)
  exact ⟨⟨hs, hg, row_mv h1 M, row_mv h2 M, m h3, m h4⟩, hn⟩
theorem below (h : LV B S vs vg sur grp w) (hb : Below w.heap.size w w1) : LV B S vs vg sur grp w1 := h.mv (Mv.of_below S hb)
theorem readG (h : LV B S vs vg sur grp w) : ∃ A c, vg = .slice A grp.length c ∧ grp.length ≤ c ∧ (Kd.slice 5 (Kd.int .u8)).C w A grp.length grp := by
  obtain ⟨⟨hs, hg, h1, h2, h3, h4⟩, hn⟩ := h
  obtain ⟨A, c, rfl⟩ := Kd.R_slice h2
  have hr := Kd.R_reads' h2
  rw [← h4.1]
  refine ⟨A, c, rfl, hr.2.1, ?_⟩
  exact h4.rows hr.2.2
theorem readS (h : LV B S vs vg sur grp w) : ∃ A c, vs = .slice A sur.length c ∧ sur.length ≤ c ∧ (Kd.slice 5 (Kd.int .u8)).C w A sur.length sur := h.swap.readG
theorem nilG (h : LV B S vs vg sur grp w) : LV B S vs (.slice none 0 0) sur [] w := by
  obtain ⟨⟨hs, hg, h1, h2, h3, h4⟩, hn⟩ := h
  exact ⟨⟨hs, [], h1, Kd.R_nil _ _ _ _ _, h3.mono (fun k hk => ⟨hk.1, hk.2.1, fun e => by simp [Value.ownBlock] at e⟩), HV.nil _ _⟩, fun k _ e => by simp [Value.ownBlock] at e⟩
/-- A row that Open has left, in the first one's place. -/
theorem opened {A : Option Addr} {c : Nat} {l : List (List Int)} (hR : Rs B (fun k => ¬ S k) w (.slice A l.length c) l) : LV B S (.slice A l.length c) (.slice none 0 0) l [] w := by
  obtain ⟨hs, h1, h2⟩ := heads_of_R hR
  exact ⟨⟨hs, [], h1, Kd.R_nil _ _ _ _ _, h2.mono (fun k hk => ⟨hk.1, fun e => hk.2 e.symm, fun e => by simp [Value.ownBlock] at e⟩), HV.nil _ _⟩, fun k _ e => by simp [Value.ownBlock] at e⟩
/-- Behind an append to the second one. -/
theorem addG {hs hg hx : List Hd} (h1 : dH.R 22 w B (fun k => ¬ S k) vs hs) (h3 : HV (fun k => ¬ S k ∧ vs.ownBlock ≠ some k ∧ vg.ownBlock ≠ some k) w hs sur) (h4 : HV (fun k => ¬ S k ∧ vs.ownBlock ≠ some k ∧ vg.ownBlock ≠ some k) w hg grp) (h5 : HV (fun k => ¬ S k ∧ vs.ownBlock ≠ some k ∧ vg.ownBlock ≠ some k) w hx rs) (hn : ∀ k, vs.ownBlock = some k → vg.ownBlock ≠ some k)
    (hR : dH.R 22 w1 B (fun k => ¬ S k) v1 (hg ++ hx)) (hG : w.grownBy w1 vg.ownBlock) (hat : v1.ownBlock = vg.ownBlock ∨ ∃ b, v1.ownBlock = some b ∧ w.heap.size ≤ b) : LV B S vs v1 sur (grp ++ rs) w1 := by
  have hv1 : ∀ k, k < w.heap.size → vg.ownBlock ≠ some k → v1.ownBlock ≠ some k := fun k hk hh e => by
    rcases hat with ha | ⟨b, ha, hb⟩
    · exact hh (ha ▸ e)
    · rw [ha] at e
      obtain rfl := Option.some.inj e
      omega
  have m : ∀ {xs rs}, HV (fun k => ¬ S k ∧ vs.ownBlock ≠ some k ∧ vg.ownBlock ≠ some k) w xs rs → HV (fun k => ¬ S k ∧ vs.ownBlock ≠ some k ∧ v1.ownBlock ≠ some k) w1 xs rs := fun hh =>
    (hh.bound.step (fun k hk hl => hG.block k hl (fun e => hk.1.2.2 e.symm))).mono (fun k hk => ⟨hk.1.1, hk.1.2.1, hv1 k hk.2 hk.1.2.2⟩)
  have hb := Kd.R_bound h1
  refine ⟨⟨hs, hg ++ hx, ?_, hR, m h3, (m h4).append (m h5)⟩, fun k hk => ?_⟩
  · have hq : dH.R 22 w B (fun k => ¬ S k ∧ vg.ownBlock ≠ some k) vs hs := ⟨fun k hk => ⟨h1.1 k hk, hn k hk⟩, h1.2⟩
    exact Kd.R_mono (Kd.R_step hq (fun k hk hl => hG.block k hl (fun e => hk.2 e.symm))) (fun k hk => hk.1)
  · exact hv1 k (hb.1 k hk).2.2.1 (hn k hk)
end LV
/-- A journal beside an append elsewhere. -/
theorem Jn.grown {S : Nat → Prop} {g jb : Nat} {d : D} {j : J} {W w1 : World} {row : Option Nat} (h : Jn S g jb d j W) (hG : W.grownBy w1 row) (hr : ∀ k, row = some k → ¬ S k) : Jn S g jb d j w1 := by
  obtain ⟨ok, gv, h⟩ := h
  have hk : ∀ k, S k → w1.heap[k]? = W.heap[k]? := fun k hs => hG.block k (h.lim k hs) (fun e => hr k e.symm hs)
  have hA := at_apart h.at_ hG.size (hk g h.sg) (fun k hok hl => hk k (h.ok_ k hok hl))
  refine ⟨_, gv, hA, fun k hk2 hl => hk2.2.elim (fun x => h.ok_ k hk2.1 x) (fun x => by omega), (hk jb h.sj).trans h.blk, ?_, fun k hk2 => ⟨(h.far k hk2).1, fun hh => (h.far k hk2).2.1 hh.1, (h.far k hk2).2.2⟩, fun hh => h.nj hh.1, h.sg, h.sj, h.ne, fun k hs => Nat.lt_of_lt_of_le (h.lim k hs) hG.size⟩
  have hR := Kd.R_of_own (base := 0) (enc := Value.int .u8) (h1 := fun _ => rfl) h.grp (ok := S) (fun k hk => (h.far k hk).1)
  exact Kd.own_of_R (Kd.R_step hR (w1 := w1) (fun k hs _ => hk k hs))
/-- How much the law's rows have. -/
structure KS (n : Nat) (sur grp : List (List Int)) : Prop where
  cnt : sur.length + grp.length ≤ 20 * n
  fl : (flat grp).length ≤ 1048576
theorem KS.next {n : Nat} {sur grp : List (List Int)} (h : KS n sur grp) : KS (n + 1) sur grp := ⟨by have := h.cnt; omega, h.fl⟩
theorem KS.jk {n : Nat} {sur grp : List (List Int)} {d : D} {j : J} (h : KS n sur grp) (hn : n ≤ 40) (k : KI sur grp d j) : Jk j := by
  rw [k.j]
  exact ⟨⟨by show (0 : Int) ≤ (grp.length : Int); omega, by show (grp.length : Int) ≤ 1000000; have := h.cnt; omega⟩, by show (flat grp).length ≤ 2000000; have := h.fl; omega⟩
theorem KS.add {n : Nat} {sur grp l : List (List Int)} {d : D} {j : J} (h : KS n sur grp) (k : KI sur grp d j) (hl : l.length ≤ 20) (he : frsE l (j.group.length : Int) d = 0) : KS (n + 1) sur (grp ++ l) := by
  have hb := frs_bound k.good he
  rw [k.j] at hb
  have hb' : (flat grp).length + (flat l).length ≤ 1048576 := hb
  refine ⟨?_, ?_⟩
  · have := h.cnt
    rw [List.length_append]
    omega
  · rw [Jr.flat_append, List.length_append]
    exact hb'
theorem KS.com {n : Nat} {sur grp : List (List Int)} (h : KS n sur grp) : KS (n + 1) (sur ++ grp) [] := ⟨by have := h.cnt; rw [List.length_append]; show _ + 0 ≤ _; omega, by show 0 ≤ 1048576; omega⟩
theorem KS.drop {n : Nat} {sur grp : List (List Int)} (h : KS n sur grp) : KS (n + 1) sur [] := ⟨by have := h.cnt; show _ + 0 ≤ _; omega, by show 0 ≤ 1048576; omega⟩
theorem KS.lost {n k : Nat} {sur grp : List (List Int)} (h : KS n sur grp) : KS (n + 1) (sur ++ grp.take k) [] := ⟨by have := h.cnt; rw [List.length_append, List.length_take]; show _ + 0 ≤ _; omega, by show 0 ≤ 1048576; omega⟩
theorem KS.mil {n : Nat} {sur grp : List (List Int)} (h : KS n sur grp) (hn : n ≤ 40) : sur.length ≤ 800 ∧ grp.length ≤ 800 := by have := h.cnt; omega
theorem ks_sum {a b : Nat} (h : a ≤ 800) (k : b ≤ 800) : (a + b) * 24 ≤ 140737488355328 := by omega
theorem ks_bytes {a b : Nat} (h : a ≤ 800) (k : b ≤ 20) : (a + b) * 24 ≤ 140737488355328 := by omega
theorem ki_sp0 : KI [] [] sp0 ⟨false, [], 0⟩ := ⟨good_sp0, rfl, rfl, rfl, rfl, rfl, (fun _ h => nomatch h), (fun _ h => nomatch h)⟩
theorem ks0 : KS 0 [] [] := ⟨Nat.le_refl 0, Nat.zero_le _⟩
/-- What holds round the loop. -/
structure KA (B n : Nat) (g jb : Nat) (vs vg : Value) (S : Nat → Prop) (sur grp : List (List Int)) (d : D) (j : J) (w : World) : Prop where
  ki : KI sur grp d j
  ks : KS n sur grp
  jn : Jn S g jb d j w
  low : ∀ k, S k → B ≤ k
  lv : LV B S vs vg sur grp w
theorem blk_mv {S S' : Nat → Prop} {W w1 : World} {p : Nat} {cs : Array Value} {t : TypeId} (h : Blk.At p cs t W) (hn : ¬ S p) (M : Mv S S' W w1) : Blk.At p cs t w1 ∧ ¬ S' p := ⟨(M.keep p h.lt hn).trans h, fun hh => (M.grow p hh).elim hn (fun x => by have := h.lt; omega)⟩
theorem on_yes {B n g jb : Nat} {vs vg : Value} {S : Nat → Prop} {sur grp : List (List Int)} {d : D} {j : J} {w : World} (h : KA B n g jb vs vg S sur grp d j w) : Calls Try.prog 23 #[.pointer (some ⟨g, 0, none⟩)] w fun e w' => e = .returned (.bool true) ∧ w' = w := by
  have h1 := dn_On h.jn.dn h.ki.good
  rw [h.ki.on] at h1
  exact h1
theorem on_no {S : Nat → Prop} {g : Nat} {sur grp : List (List Int)} {d : D} {z : Bool} {w : World} (h : Dn S g d w) (k : KX sur grp d z) : Calls Try.prog 23 #[.pointer (some ⟨g, 0, none⟩)] w fun e w' => e = .returned (.bool false) ∧ w' = w := by
  have h1 := dn_On h k.good
  rw [k.off] at h1
  exact h1
theorem KA.next {B n g jb : Nat} {vs vg : Value} {S : Nat → Prop} {sur grp : List (List Int)} {d : D} {j : J} {w : World} (h : KA B n g jb vs vg S sur grp d j w) : KA B (n + 1) g jb vs vg S sur grp d j w := ⟨h.ki, h.ks.next, h.jn, h.low, h.lv⟩
theorem KA.dropped {B n g jb : Nat} {vs vg : Value} {S : Nat → Prop} {sur grp : List (List Int)} {d : D} {j : J} {w w1 : World} (h : KA B n g jb vs vg S sur grp d j w) (hj : Jn S g jb d ⟨j.live, [], 0⟩ w1) (M : Mv S S w w1) : KA B (n + 1) g jb vs (.slice none 0 0) S sur [] d ⟨false, [], 0⟩ w1 := by
  rw [h.ki.j] at hj
  exact ⟨ki_drop h.ki, h.ks.drop, hj, h.low, (h.lv.mv M).nilG⟩
theorem KA.armed {B n g jb : Nat} {vs vg : Value} {S S' : Nat → Prop} {sur grp : List (List Int)} {d : D} {j : J} {w w1 : World} (h : KA B n g jb vs vg S sur grp d j w) (hB : B ≤ w.heap.size) {x : Int} {b : Bool} (hx : x < 9223372036854775808) (hj : Jn S' g jb (armD x b d) j w1) (M : Mv S S' w w1) : KA B (n + 1) g jb vs vg S' sur grp (armD x b d) j w1 :=
  ⟨ki_arm h.ki hx b, h.ks.next, hj, M.above h.low hB, h.lv.mv M⟩
theorem KA.same {B n g jb : Nat} {vs vg : Value} {S S' : Nat → Prop} {sur grp : List (List Int)} {d d' : D} {j j' : J} {w w1 : World} (h : KA B n g jb vs vg S sur grp d j w) (hB : B ≤ w.heap.size) (hk : KI sur grp d' j') (hj : Jn S' g jb d' j' w1) (M : Mv S S' w w1) : KA B n g jb vs vg S' sur grp d' j' w1 :=
  ⟨hk, h.ks, hj, M.above h.low hB, h.lv.mv M⟩
theorem KA.many {B n g jb : Nat} {vs vg : Value} {S : Nat → Prop} {sur grp : List (List Int)} {d : D} {j : J} {w : World} (h : KA B n g jb vs vg S sur grp d j w) : Calls Try.prog 20 #[.pointer (some ⟨jb, 0, none⟩)] w fun e w' => e = .returned (.int .i64 (grp.length : Int)) ∧ Jn S g jb d ⟨j.live, [], 0⟩ w' ∧ Mv S S w w' := by
  have h1 := jDrop.calls h.jn
  rw [show j.many = (grp.length : Int) from by rw [h.ki.j]] at h1
  exact h1
theorem jn_fresh {S : Nat → Prop} {g jb : Nat} {d : D} {j : J} {w : World} (h : Jn S g jb d j w) : ∀ k, w.heap.size ≤ k → ¬ S k := fun k hk hs => by
  have := h.dn.lim k hs
  omega
theorem heads_low {w w2 : World} {S : Nat → Prop} {vs vg : Value} {hs hg hx : List Hd} {rs : List (List Int)} (h : HV (fun k => k < w.heap.size) w hx rs) (hb : Below w.heap.size w w2) (hS : ∀ k, S k → w.heap.size ≤ k) (h1 : dH.R 22 w2 w.heap.size (fun k => ¬ S k) vs hs) (h2 : dH.R 22 w2 w.heap.size (fun k => ¬ S k) vg hg) : HV (fun k => ¬ S k ∧ vs.ownBlock ≠ some k ∧ vg.ownBlock ≠ some k) w2 hx rs :=
  (h.step (fun k _ hl => hb.block k hl)).mono (fun k hk => ⟨fun hs => by have := hS k hs; omega, fun e => by have := Kd.R_base h1 k e; omega, fun e => by have := Kd.R_base h2 k e; omega⟩)
theorem grp_len {hs : List Hd} {a r : Nat} (e : hs.length = a) (h : a ≤ 800) (k : r ≤ 20) : (hs.length + r) * 24 ≤ 140737488355328 := by omega
theorem two_len {hs : List Hd} {a r : Nat} (e : hs.length = a) (h : a ≤ 800) (k : r ≤ 800) : (hs.length + r) * 24 ≤ 140737488355328 := by omega
theorem lv_com {B : Nat} {S : Nat → Prop} {vs vg v1 : Value} {sur grp : List (List Int)} {w w1 : World} {hs hg : List Hd} (h1 : dH.R 22 w B (fun k => ¬ S k) vs hs) (h2 : dH.R 22 w B (fun k => ¬ S k) vg hg) (h3 : HV (fun k => ¬ S k ∧ vs.ownBlock ≠ some k ∧ vg.ownBlock ≠ some k) w hs sur) (h4 : HV (fun k => ¬ S k ∧ vs.ownBlock ≠ some k ∧ vg.ownBlock ≠ some k) w hg grp) (hn : ∀ k, vs.ownBlock = some k → vg.ownBlock ≠ some k)
    (hR : dH.R 22 w1 B (fun k => ¬ S k) v1 (hs ++ hg)) (hG : w.grownBy w1 vs.ownBlock) (hat : v1.ownBlock = vs.ownBlock ∨ ∃ b, v1.ownBlock = some b ∧ w.heap.size ≤ b) : LV B S v1 (.slice none 0 0) (sur ++ grp) [] w1 :=
  (LV.addG h2 (h4.mono (fun k hk => ⟨hk.1, hk.2.2, hk.2.1⟩)) (h3.mono (fun k hk => ⟨hk.1, hk.2.2, hk.2.1⟩)) (h4.mono (fun k hk => ⟨hk.1, hk.2.2, hk.2.1⟩)) (fun k hk e => hn k e hk) hR hG hat).swap.nilG
theorem take_zero {l : List (List Int)} {k : Nat} (h : l.take k = []) (hk : k ≤ l.length) : decide ((k : Int) > 0) = false := by
  refine decide_eq_false ?_
  rcases List.take_eq_nil_iff.1 h with h | h
  · omega
  · rw [h] at hk
    have : k ≤ 0 := hk
    omega
theorem cut_heads {w : World} {A : Option Addr} {hs : List Hd} {n k : Nat} (h : dH.C w A hs.length hs) (hn : hs.length = n) (hk : k ≤ n) : dH.C w A k (hs.take k) := by
  have h1 := Kd.C_take h (m := k) (by omega)
  rw [List.length_take, Nat.min_eq_left (by omega)] at h1
  exact h1
theorem take_nil {l : List (List Int)} {k : Nat} (h : l.take k = []) : k = 0 ∨ l = [] := List.take_eq_nil_iff.1 h
theorem more_is {sur grp L : List (List Int)} {k : Nat} (h : L = sur ++ grp.take k) (hk : k ≤ grp.length) (hg : grp.length ≤ 800) : wrap64 ((L.length : Int) - (sur.length : Int)) = (k : Int) := by
  rw [h, List.length_append, List.length_take, Nat.min_eq_left hk]
  unfold wrap64
  omega
theorem len_mil {sur grp L : List (List Int)} {k : Nat} (h : L = sur ++ grp.take k) (hs : sur.length ≤ 800) (hg : grp.length ≤ 800) : L.length ≤ 1000000 := by
  rw [h, List.length_append, List.length_take]
  omega
theorem lv_opened {b B : Nat} {S : Nat → Prop} {w : World} {A : Option Addr} {c : Nat} {l : List (List Int)} (hR : Rs b (fun k => ¬ S k) w (.slice A l.length c) l) (hb : B ≤ b) : LV B S (.slice A l.length c) (.slice none 0 0) l [] w := by
  obtain ⟨hs, h1, h2⟩ := heads_of_R hR
  exact ⟨⟨hs, [], Kd.R_of_own (h1 := hv1) (own_less (Kd.own_of_R h1) hb) h1.1, Kd.R_nil _ _ _ _ _, h2.mono (fun k hk => ⟨hk.1, fun e => hk.2 e.symm, fun e => by simp [Value.ownBlock] at e⟩), HV.nil _ _⟩, fun k _ e => by simp [Value.ownBlock] at e⟩
theorem ks_nil {a : Nat} (h : a ≤ 800) : (([] : List Hd).length + a) * 24 ≤ 140737488355328 := by
  show (0 + a) * 24 ≤ 140737488355328
  omega
theorem ks_two {hs : List Hd} {a b k : Nat} (e : hs.length = a) (h : a ≤ 800) (hk : k ≤ b) (hb : b ≤ 800) : (hs.length + k) * 24 ≤ 140737488355328 := by omega
theorem kept_same {wd w5 : World} {ok : Nat → Prop} {base k : Nat} {hsS hsG : List Hd} {sur grp L : List (List Int)} {v5 : Value} (ho : dH.R 22 w5 base (fun _ => True) v5 (hsS ++ hsG.take k)) (hb : Below wd.heap.size wd w5) (h3 : HV ok wd hsS sur) (h4 : HV ok wd hsG grp) (hL : L = sur ++ grp.take k) : ∃ A5 c5, v5 = .slice A5 L.length c5 ∧ (Kd.slice 5 (Kd.int .u8)).C w5 A5 L.length L := by
  obtain ⟨A5, c5, rfl⟩ := Kd.R_slice ho
  have hr := Kd.R_reads' ho
  have hv := (h3.append (h4.take k)).step (w1 := w5) (fun k _ hl => hb.block k hl)
  rw [← hL] at hv
  rw [← hv.1]
  exact ⟨A5, c5, rfl, hv.rows hr.2.2⟩
theorem ka_new {B n g jb : Nat} {vs vg : Value} {S : Nat → Prop} {sur grp : List (List Int)} {d : D} {j : J} {w : World} (h : KA B n g jb vs vg S sur grp d j w) : ¬ S w.heap.size ∧ vs.ownBlock ≠ some w.heap.size ∧ vg.ownBlock ≠ some w.heap.size := by
  obtain ⟨ok, gv, hj⟩ := h.jn
  obtain ⟨hs, hg, h1, h2, _, _⟩ := h.lv.ex
  have b1 := Kd.R_bound h1
  have b2 := Kd.R_bound h2
  exact ⟨fun hh => Nat.lt_irrefl _ (hj.lim _ hh), fun e => Nat.lt_irrefl _ (b1.1 _ e).2.2.1, fun e => Nat.lt_irrefl _ (b2.1 _ e).2.2.1⟩
set_option maxHeartbeats 16000000 in
theorem law_Kept.calls {w : World} {A : Option Addr} {c : Nat} {l : List Ac} (hC : dA.C w A l.length l) (hc : l.length ≤ c) (hln : ∀ a ∈ l, a.n < 9223372036854775808) :
    Calls Try.prog 4 #[.slice A l.length c] w fun e w' => e = .returned (.bool true) ∧ Below w.heap.size w w' := by
  have HC := Aside0.mk hC
  have HCC := Aside0.mk hc
  have HLN := Aside0.mk hln
  clear hC hc hln
  go_enter Try.func4, Try.ntmps4
  go_wp2_with fail
  refine (disk_New.calls (by decide) (by decide) (fun k => w.heap.size < k) (by omega) (fun _ hk => hk)).mono ?_
  rintro e w1 ⟨rfl, hA, hB⟩
  have hD := Dn.new (B := 0) hA hB
  obtain ⟨g, hg⟩ : ∃ g, g = w.heap.size := ⟨_, rfl⟩
  have HGE := Aside0.mk hg
  rw [← hg] at hD ⊢
  have HD1 := Aside0.mk (show Dn (fun k => g ≤ k ∧ k < w1.heap.size) g sp0 w1 from hD.1)
  have HB1 := Aside0.mk hB
  clear hA hB hg hD
  go_wp2_with fail
  refine (law_far.calls (Kd.C_below HC.out HB1.out) HCC.out).mono ?_
  rintro e w2 ⟨bf, rfl, hB, hbf⟩
  have HD2 := Aside0.mk (HD1.out.below hB)
  have HB2 := Aside0.mk (HB1.out.trans (hB.mono HB1.out.size))
  have HBF := Aside0.mk hbf
  clear hB HD1 HB1 hbf
  cases bf
  case true =>
    go_wp2_with fail
    refine (law_alive.calls _).mono ?_
    rintro e w3 ⟨rfl, hB⟩
    have HB3 := Aside0.mk (HB2.out.trans (hB.mono HB2.out.size))
    clear hB
    go_wp2_with fail
    go_ret
    exact ⟨rfl, HB3.out⟩
  have HSM := Aside0.mk (HBF.out rfl)
  have hOP := jOpen.calls HD2.out good_sp0 rfl rfl false rfl
  rw [sp_open] at hOP
  have HOP := Aside0.mk hOP
  have HS := Aside0.mk (law_short.calls (A := A) HCC.out)
  obtain ⟨ms, hms⟩ : ∃ ms, ms = sh l.length := ⟨_, rfl⟩
  have HMS := Aside0.mk (show ms ≤ l.length ∧ ms ≤ 40 from by rw [hms]; unfold sh; split <;> omega)
  rw [← hms] at HS HSM
  clear hms hOP HBF
  go_wp2_with fail
  refine HOP.out.mono ?_
  rintro e w3 ⟨jb0, Ao, co, S3, rfl, hJ, hM, hR⟩
  have HKA := Aside0.mk (show KA w.heap.size 0 g jb0 (.slice none 0 0) (.slice none 0 0) S3 [] [] sp0 ⟨false, [], 0⟩ w3 from ⟨ki_sp0, ks0, hJ, hM.above (fun k hk => by rw [← HGE.out]; exact hk.1) HB2.out.size, LV.nil _ _ _⟩)
  have HB3 := Aside0.mk (hM.base HB2.out (fun k hk => by rw [← HGE.out]; exact hk.1) HB2.out.size)
  clear hJ hM hR HOP HD2 HB2
  go_wp2_with fail
  refine (HS.out _).mono ?_
  rintro e w6 ⟨rfl, rfl⟩
  go_wp2_with fail
  go_loopw [5, 8, 9, 54] (fun jp vs vg i wr => ∃ n : Nat, n ≤ ms ∧ i = .int .i64 n ∧ (∃ jb S sur grp d j, jp = .pointer (some ⟨jb, 0, none⟩) ∧ Aside0 (KA w.heap.size n g jb vs vg S sur grp d j wr)) ∧ Aside0 (Below w.heap.size w wr)) (fun _ _ _ i _ => ms - (intOf i).toNat)
  case atStart => exact ⟨0, Nat.zero_le _, rfl, ⟨_, _, _, _, _, _, rfl, HKA⟩, HB3⟩
  case round =>
    clear HKA HB3
    obtain ⟨n, hn, rfl, ⟨jb, S, sur, grp, d, j, rfl, HK0⟩, HB⟩ := hrel
    by_cases hlt : n < ms
    case neg =>
      obtain rfl : n = ms := by omega
      go_wp2_with fail
      refine (law_alive.calls _).mono ?_
      rintro e w3 ⟨rfl, hB⟩
      have HB3 := Aside0.mk (HB.out.trans (hB.mono HB.out.size))
      clear hB
      go_wp2_with fail
      go_ret
      exact ⟨rfl, HB3.out⟩
    have hl : n < l.length := by have := HMS.out; omega
    have HN40 := Aside0.mk (show n ≤ 40 by have := HMS.out; omega)
    obtain ⟨ad, Ra, ca, k0, k1, c0, c1, rfl, hb, hbC, hk, hcs, hx⟩ := script_at HC.out hl
    have HLa := Aside0.mk (HLN.out _ (List.getElem_mem hl))
    have H20 := Aside0.mk (HSM.out.1 l[n] (List.mem_take_iff_getElem.2 ⟨n, by omega, rfl⟩))
    generalize l[n] = a at hb hbC hk hcs hx H20 HLa
    obtain ⟨X, hX⟩ : ∃ X, X = ad.add (n * 8) := ⟨_, rfl⟩
    have hXe : ad.add (n * 8) = X := hX.symm
    rw [hXe] at hx
    clear hX
    have hx0 : wr.cell? X = some (.int .u8 a.kind) := pw_cell_below HB.out (hx 0 _ rfl)
    have hx1 : wr.cell? ⟨X.block, X.off + 1, none⟩ = some (.slice Ra a.recs.length ca) := pw_cell_below HB.out (hx 1 _ rfl)
    have hx2 : wr.cell? ⟨X.block, X.off + 2, none⟩ = some (.int .i64 a.n) := pw_cell_below HB.out (hx 2 _ rfl)
    have hx3 : wr.cell? ⟨X.block, X.off + 3, none⟩ = some (.bool a.behind) := pw_cell_below HB.out (hx 3 _ rfl)
    have hx4 : wr.cell? ⟨X.block, X.off + 4, none⟩ = some (.int .i64 k0) := pw_cell_below HB.out (hx 4 _ rfl)
    have hx5 : wr.cell? ⟨X.block, X.off + 5, none⟩ = some (.int .i64 k1) := pw_cell_below HB.out (hx 5 _ rfl)
    have hx6 : wr.cell? ⟨X.block, X.off + 6, none⟩ = some (.bool c0) := pw_cell_below HB.out (hx 6 _ rfl)
    have hx7 : wr.cell? ⟨X.block, X.off + 7, none⟩ = some (.bool c1) := pw_cell_below HB.out (hx 7 _ rfl)
    have HCR := Aside0.mk hbC
    have HCB := Aside0.mk hb
    have HKK := Aside0.mk (And.intro hk hcs)
    obtain ⟨As, cs, evs, hcs', hCs'⟩ := HK0.out.lv.readS
    obtain ⟨Ag, cg, evg, hcg', hCg'⟩ := HK0.out.lv.readG
    subst evs evg
    have HCSG := Aside0.mk (And.intro hcs' hcg')
    have hb1 := below_alloc (Below.refl _ wr) (.cells #[.int .u8 a.kind, .slice Ra a.recs.length ca, .int .i64 a.n, .bool a.behind, .int .i64 k0, .int .i64 k1, .bool c0, .bool c1] 46)
    have hq := heap_new wr (.cells #[.int .u8 a.kind, .slice Ra a.recs.length ca, .int .i64 a.n, .bool a.behind, .int .i64 k0, .int .i64 k1, .bool c0, .bool c1] 46) rfl
    obtain ⟨w1, hw1⟩ : ∃ w1, w1 = wr.alloc (.cells #[.int .u8 a.kind, .slice Ra a.recs.length ca, .int .i64 a.n, .bool a.behind, .int .i64 k0, .int .i64 k1, .bool c0, .bool c1] 46) := ⟨_, rfl⟩
    have hW1 : wr.alloc (.cells #[.int .u8 a.kind, .slice Ra a.recs.length ca, .int .i64 a.n, .bool a.behind, .int .i64 k0, .int .i64 k1, .bool c0, .bool c1] 46) = w1 := hw1.symm
    rw [hW1] at hb1 hq
    have HQ := Aside0.mk (show Blk.At wr.heap.size #[.int .u8 a.kind, .slice Ra a.recs.length ca, .int .i64 a.n, .bool a.behind, .int .i64 k0, .int .i64 k1, .bool c0, .bool c1] 46 w1 from hq)
    have HB1 := Aside0.mk (HB.out.trans (hb1.mono HB.out.size))
    have HK1 := Aside0.mk (show KA w.heap.size n g jb (.slice As sur.length cs) (.slice Ag grp.length cg) S sur grp d j w1 from ⟨HK0.out.ki, HK0.out.ks, HK0.out.jn.below hb1, HK0.out.low, HK0.out.lv.below hb1⟩)
    have q0 : w1.cell? ⟨wr.heap.size, 0, none⟩ = some (.int .u8 a.kind) := HQ.out.cell 0
    have en : wrap64 ((n : Int) + 1) = ((n + 1 : Nat) : Int) := w64n (by have := HMS.out; omega)
    obtain ⟨z, hz⟩ : ∃ z, z = Int.tmod a.kind 7 := ⟨_, rfl⟩
    have hzc : Int.tmod a.kind 7 = z := hz.symm
    have HPS := Aside0.mk (ka_new HK0.out).1
    clear hx hb hbC hk hcs hb1 hq hz HK0 hcs' hCs' hcg' hCg' hw1
    by_cases t0 : z = 0
    case pos =>
      have tb : (z == 0) = true := by simpa using t0
      clear t0
      have q1 : w1.cell? ⟨wr.heap.size, 1, none⟩ = some (.slice Ra a.recs.length ca) := HQ.out.cell 1
      have hAD := jAdd.calls (c := ca) HK1.out.jn HK1.out.ki.good (HK1.out.ks.jk HN40.out HK1.out.ki) (Kd.C_below HCR.out HB1.out) (Nat.le_trans H20.out (by decide))
      have hADD := ki_add HK1.out.ki a.recs
      have hKS := fun he => HK1.out.ks.add HK1.out.ki H20.out (l := a.recs) he
      obtain ⟨E, hE⟩ : ∃ E, E = frsE a.recs (j.group.length : Int) d := ⟨_, rfl⟩
      rw [← hE] at hAD hADD
      rw [← hE] at hKS
      have HAD := Aside0.mk hAD
      have HADD := Aside0.mk hADD
      have HKS := Aside0.mk hKS
      clear hAD hE hADD hKS
      go_wp2_with fail
      refine HAD.out.mono ?_
      rintro e w2 ⟨rfl, S2, hJ, hM⟩

      have HB2 := Aside0.mk (hM.base HB1.out HK1.out.low HB1.out.size)
      have HLW2 := Aside0.mk (show ∀ k, S2 k → w.heap.size ≤ k from hM.above HK1.out.low HB1.out.size)
      have HLV2 := Aside0.mk (HK1.out.lv.mv hM)
      have HQ2 := Aside0.mk (blk_mv HQ.out HPS.out hM).1
      have HJ2 := Aside0.mk hJ

      by_cases hE0 : E = 0
      case neg =>
        have hEb : (E == 0) = false := beq_eq_false_iff_ne.mpr hE0
        have hj := hJ
        rw [HADD.out.2 hE0] at hj
        have HK2 := Aside0.mk (HK1.out.same HB1.out.size HK1.out.ki hj hM).next
        clear hJ hM hj HK1 HB1 HQ HPS q0 q1 HAD HADD HKS hE0 HLV2 HQ2 HJ2
        go_wp2_with fail
        refine (on_yes HK2.out).mono ?_
        rintro e wo ⟨rfl, rfl⟩
        go_wp2_with fail
        rw [en]
        go_roundw
        case rel => exact ⟨n + 1, by omega, rfl, ⟨_, _, _, _, _, _, rfl, HK2⟩, HB2⟩
        case measure => simp [intOf]; omega
      have hEb : (E == 0) = true := beq_iff_eq.mpr hE0
      have HKI := Aside0.mk (HADD.out.1 hE0)
      have HKS2 := Aside0.mk (HKS.out hE0)
      have q1' : w2.cell? ⟨wr.heap.size, 1, none⟩ = some (.slice Ra a.recs.length ca) := HQ2.out.cell 1
      obtain ⟨hsS, hsG, hh1, hh2, hh3, hh4⟩ := HLV2.out.ex
      obtain ⟨hx, hxC, hxV⟩ := heads_of_C HCR.out
      have HH := Aside0.mk (And.intro hh1 (And.intro hh2 (And.intro hh3 hh4)))
      have HXC := Aside0.mk (Kd.C_below hxC HB2.out)
      have HXV := Aside0.mk (heads_low hxV HB2.out HLW2.out hh1 hh2)
      have HLEN := Aside0.mk (grp_len hh4.1 (HK1.out.ks.mil HN40.out).2 H20.out)
      clear hJ hM HK1 HB1 HQ HPS q0 q1 HAD HADD HKS hE0 hh1 hh2 hh3 hh4 hxC hxV
      go_wp2_with (at_builtin; refine Kd.R_append_row hv (none, 0, 0) (h1 := hv1) (w0 := w) w.heap.size rfl _ _ 29 22 (.slice none 0 0) 24 rfl Try.underlying29 info22 rfl (by decide) (.slice Ag grp.length cg) hsG hx Ra a.recs.length ca (fun k => ¬ S2 k) rfl rfl (jn_fresh HJ2.out) HH.out.2.1 HXC.out HB2.out HB2.out.size HLEN.out ?_; intro v1 w3 ho hb hg hat; have HB3 := Aside0.mk hb; have HK3 := Aside0.mk (show KA w.heap.size (n + 1) g jb (.slice As sur.length cs) v1 S2 sur (grp ++ a.recs) d (addJ a.recs d j) w3 from ⟨HKI.out, HKS2.out, HJ2.out.grown hg (fun k hk => HH.out.2.1.1 k hk), HLW2.out, LV.addG HH.out.1 HH.out.2.2.1 HH.out.2.2.2 HXV.out HLV2.out.ne ho hg hat⟩); clear ho hb hg hat)

      go_wp2_with fail
      refine (on_yes HK3.out).mono ?_
      rintro e wo ⟨rfl, rfl⟩
      go_wp2_with fail
      rw [en]
      go_roundw
      case rel => exact ⟨n + 1, by omega, rfl, ⟨_, _, _, _, _, _, rfl, HK3⟩, HB3⟩
      case measure => simp [intOf]; omega
    have t0b : (z == 0) = false := by simpa using t0
    clear t0
    by_cases t6 : z = 6
    case pos =>
      have tb : (z == 6) = true := by simpa using t6
      clear t6
      have q1 : w1.cell? ⟨wr.heap.size, 1, none⟩ = some (.slice Ra a.recs.length ca) := HQ.out.cell 1
      have hAD := jAdd.calls (c := ca) HK1.out.jn HK1.out.ki.good (HK1.out.ks.jk HN40.out HK1.out.ki) (Kd.C_below HCR.out HB1.out) (Nat.le_trans H20.out (by decide))
      have hADD := ki_add HK1.out.ki a.recs
      have hKS := fun he => HK1.out.ks.add HK1.out.ki H20.out (l := a.recs) he
      obtain ⟨E, hE⟩ : ∃ E, E = frsE a.recs (j.group.length : Int) d := ⟨_, rfl⟩
      rw [← hE] at hAD hADD
      rw [← hE] at hKS
      have HAD := Aside0.mk hAD
      have HADD := Aside0.mk hADD
      have HKS := Aside0.mk hKS
      clear hAD hE hADD hKS
      go_wp2_with fail
      refine HAD.out.mono ?_
      rintro e w2 ⟨rfl, S2, hJ, hM⟩

      have HB2 := Aside0.mk (hM.base HB1.out HK1.out.low HB1.out.size)
      have HLW2 := Aside0.mk (show ∀ k, S2 k → w.heap.size ≤ k from hM.above HK1.out.low HB1.out.size)
      have HLV2 := Aside0.mk (HK1.out.lv.mv hM)
      have HQ2 := Aside0.mk (blk_mv HQ.out HPS.out hM).1
      have HJ2 := Aside0.mk hJ

      by_cases hE0 : E = 0
      case neg =>
        have hEb : (E == 0) = false := beq_eq_false_iff_ne.mpr hE0
        have hj := hJ
        rw [HADD.out.2 hE0] at hj
        have HK2 := Aside0.mk (HK1.out.same HB1.out.size HK1.out.ki hj hM).next
        clear hJ hM hj HK1 HB1 HQ HPS q0 q1 HAD HADD HKS hE0 HLV2 HQ2 HJ2
        go_wp2_with fail
        refine (on_yes HK2.out).mono ?_
        rintro e wo ⟨rfl, rfl⟩
        go_wp2_with fail
        rw [en]
        go_roundw
        case rel => exact ⟨n + 1, by omega, rfl, ⟨_, _, _, _, _, _, rfl, HK2⟩, HB2⟩
        case measure => simp [intOf]; omega
      have hEb : (E == 0) = true := beq_iff_eq.mpr hE0
      have HKI := Aside0.mk (HADD.out.1 hE0)
      have HKS2 := Aside0.mk (HKS.out hE0)
      have q1' : w2.cell? ⟨wr.heap.size, 1, none⟩ = some (.slice Ra a.recs.length ca) := HQ2.out.cell 1
      obtain ⟨hsS, hsG, hh1, hh2, hh3, hh4⟩ := HLV2.out.ex
      obtain ⟨hx, hxC, hxV⟩ := heads_of_C HCR.out
      have HH := Aside0.mk (And.intro hh1 (And.intro hh2 (And.intro hh3 hh4)))
      have HXC := Aside0.mk (Kd.C_below hxC HB2.out)
      have HXV := Aside0.mk (heads_low hxV HB2.out HLW2.out hh1 hh2)
      have HLEN := Aside0.mk (grp_len hh4.1 (HK1.out.ks.mil HN40.out).2 H20.out)
      clear hJ hM HK1 HB1 HQ HPS q0 q1 HAD HADD HKS hE0 hh1 hh2 hh3 hh4 hxC hxV
      go_wp2_with (at_builtin; refine Kd.R_append_row hv (none, 0, 0) (h1 := hv1) (w0 := w) w.heap.size rfl _ _ 29 22 (.slice none 0 0) 24 rfl Try.underlying29 info22 rfl (by decide) (.slice Ag grp.length cg) hsG hx Ra a.recs.length ca (fun k => ¬ S2 k) rfl rfl (jn_fresh HJ2.out) HH.out.2.1 HXC.out HB2.out HB2.out.size HLEN.out ?_; intro v1 w3 ho hb hg hat; have HB3 := Aside0.mk hb; have HK3 := Aside0.mk (show KA w.heap.size (n + 1) g jb (.slice As sur.length cs) v1 S2 sur (grp ++ a.recs) d (addJ a.recs d j) w3 from ⟨HKI.out, HKS2.out, HJ2.out.grown hg (fun k hk => HH.out.2.1.1 k hk), HLW2.out, LV.addG HH.out.1 HH.out.2.2.1 HH.out.2.2.2 HXV.out HLV2.out.ne ho hg hat⟩); clear ho hb hg hat)

      go_wp2_with fail
      refine (on_yes HK3.out).mono ?_
      rintro e wo ⟨rfl, rfl⟩
      go_wp2_with fail
      rw [en]
      go_roundw
      case rel => exact ⟨n + 1, by omega, rfl, ⟨_, _, _, _, _, _, rfl, HK3⟩, HB3⟩
      case measure => simp [intOf]; omega
    have t6b : (z == 6) = false := by simpa using t6
    clear t6
    by_cases t1 : z = 1
    case pos =>
      have tb : (z == 1) = true := by simpa using t1
      clear t1
      have hCM := jCommit.calls HK1.out.jn HK1.out.ki.good
      have hKC := ki_com HK1.out.ki
      obtain ⟨E, hE⟩ : ∃ E, E = comE d j := ⟨_, rfl⟩
      obtain ⟨D2, hD2⟩ : ∃ D2, D2 = comD d j := ⟨_, rfl⟩
      obtain ⟨J2, hJ2⟩ : ∃ J2, J2 = comJ d j := ⟨_, rfl⟩
      rw [← hE, ← hD2, ← hJ2] at hCM hKC
      have HCM := Aside0.mk hCM
      have HKC := Aside0.mk hKC
      clear hCM hKC hE hD2 hJ2
      go_wp2_with fail
      refine HCM.out.mono ?_
      rintro e w2 ⟨rfl, S2, hJ, hM⟩

      have HB2 := Aside0.mk (hM.base HB1.out HK1.out.low HB1.out.size)
      have HLW2 := Aside0.mk (show ∀ k, S2 k → w.heap.size ≤ k from hM.above HK1.out.low HB1.out.size)
      have HLV2 := Aside0.mk (HK1.out.lv.mv hM)
      have HQ2 := Aside0.mk (blk_mv HQ.out HPS.out hM).1
      have HJ2 := Aside0.mk hJ

      have HKS := Aside0.mk HK1.out.ks
      rcases HKC.out with ⟨rfl, hk⟩ | ⟨he, hk⟩ | ⟨he, hk⟩
      · have HKI := Aside0.mk hk
        have hEb : ((0 : Int) == 0) = true := rfl
        obtain ⟨hsS, hsG, hh1, hh2, hh3, hh4⟩ := HLV2.out.ex
        have HH := Aside0.mk (And.intro hh1 (And.intro hh2 (And.intro hh3 hh4)))
        have hgc := (Kd.R_reads' hh2).2.2
        rw [hh4.1] at hgc
        have HGC := Aside0.mk hgc
        have HLEN := Aside0.mk (two_len hh3.1 (HK1.out.ks.mil HN40.out).1 (HK1.out.ks.mil HN40.out).2)
        clear hJ hM HK1 HB1 HQ HPS q0 HCM HKC hh1 hh2 hh3 hh4 hgc hk
        go_wp2_with (at_builtin; refine Kd.R_append_row hv (none, 0, 0) (h1 := hv1) (w0 := w) w.heap.size rfl _ _ 29 22 (.slice none 0 0) 24 rfl Try.underlying29 info22 rfl (by decide) (.slice As sur.length cs) hsS hsG Ag grp.length cg (fun k => ¬ S2 k) rfl rfl (jn_fresh HJ2.out) HH.out.1 HGC.out HB2.out HB2.out.size HLEN.out ?_; intro v1 w3 ho hb hg hat; have HB3 := Aside0.mk hb; have HK3 := Aside0.mk (show KA w.heap.size (n + 1) g jb v1 (.slice none 0 0) S2 (sur ++ grp) [] D2 J2 w3 from ⟨HKI.out, HKS.out.com, HJ2.out.grown hg (fun k hk => HH.out.1.1 k hk), HLW2.out, lv_com HH.out.1 HH.out.2.1 HH.out.2.2.1 HH.out.2.2.2 HLV2.out.ne ho hg hat⟩); clear ho hb hg hat)
        
        go_wp2_with fail
        refine (on_yes HK3.out).mono ?_
        rintro e wo ⟨rfl, rfl⟩
        go_wp2_with fail
        rw [en]
        go_roundw
        case rel => exact ⟨n + 1, by omega, rfl, ⟨_, _, _, _, _, _, rfl, HK3⟩, HB3⟩
        case measure => simp [intOf]; omega
      · have hEb : (E == 0) = false := beq_eq_false_iff_ne.mpr he
        have HK2 := Aside0.mk (HK1.out.same HB1.out.size hk hJ hM).next
        clear hJ hM HK1 HB1 HQ HPS q0 HCM HKC HLV2 HQ2 HJ2 hk he
        
        go_wp2_with fail
        refine (on_yes HK2.out).mono ?_
        rintro e wo ⟨rfl, rfl⟩
        go_wp2_with fail
        rw [en]
        go_roundw
        case rel => exact ⟨n + 1, by omega, rfl, ⟨_, _, _, _, _, _, rfl, HK2⟩, HB2⟩
        case measure => simp [intOf]; omega
      · have hEb : (E == 0) = false := beq_eq_false_iff_ne.mpr he
        have HD2 := Aside0.mk hJ.dn
        have HKX := Aside0.mk hk
        clear hJ hM HK1 HB1 HQ HPS q0 HCM HKC HJ2 hk he
        go_wp2_with fail
        refine (on_no HD2.out HKX.out).mono ?_
        rintro e wo ⟨rfl, rfl⟩
        have q4 : wo.cell? ⟨wr.heap.size, 4, none⟩ = some (.int .i64 k0) := HQ2.out.cell 4
        have q5 : wo.cell? ⟨wr.heap.size, 5, none⟩ = some (.int .i64 k1) := HQ2.out.cell 5
        have q6 : wo.cell? ⟨wr.heap.size, 6, none⟩ = some (.bool c0) := HQ2.out.cell 6
        have q7 : wo.cell? ⟨wr.heap.size, 7, none⟩ = some (.bool c1) := HQ2.out.cell 7
        obtain ⟨hE0, hg2, hc2, hr2, k, hk, hzk, hsc, hki, ho3, hs3⟩ := kx_end HKX.out k0 k1 c0 c1
        have hst := dn_Start HD2.out HKX.out.good k0 k1 c0 c1
        rw [hE0] at hst
        have hr3 : (openD false (startD k0 k1 c0 c1 D2)).root = iv false := hki.root
        have hc3 := calm_open hc2 false
        obtain ⟨d2, hd2⟩ : ∃ d2, d2 = startD k0 k1 c0 c1 D2 := ⟨_, rfl⟩
        rw [← hd2] at hg2 hc2 hr2 hsc hki ho3 hs3 hst hr3 hc3
        obtain ⟨L, hL⟩ : ∃ L, L = sur ++ grp.take k := ⟨_, rfl⟩
        rw [← hL] at hsc hki hs3
        have HST := Aside0.mk hst
        have H2 := Aside0.mk (And.intro hg2 (And.intro hc2 (And.intro hr2 hsc)))
        have H3 := Aside0.mk (And.intro hki (And.intro ho3 (And.intro hs3 (And.intro hr3 hc3))))
        have HL := Aside0.mk (And.intro hL (And.intro hk hzk))
        clear hE0 hg2 hc2 hr2 hsc hki ho3 hs3 hr3 hc3 hst hd2 hL hk hzk
        go_wp2_with fail
        refine HST.out.mono ?_
        rintro e wa ⟨rfl, Sa, hD, hM⟩
        have HBa := Aside0.mk (hM.base HB2.out HLW2.out HB2.out.size)
        have HLa2 := Aside0.mk (show ∀ k, Sa k → w.heap.size ≤ k from hM.above HLW2.out HB2.out.size)
        have HLVa := Aside0.mk (HLV2.out.mv hM)
        have hOP := jOpen.calls hD H2.out.1 H2.out.2.1.on H2.out.2.1.no false H2.out.2.2.1
        rw [H2.out.2.2.2] at hOP
        have HOP := Aside0.mk hOP
        clear hD hM hOP HST q4 q5 q6 q7
        go_wp2_with fail
        refine HOP.out.mono ?_
        rintro e wb ⟨jb1, A1, cc1, Sb, rfl, hJ, hM, hR⟩
        have HBb := Aside0.mk (hM.base HBa.out HLa2.out HBa.out.size)
        have HLb := Aside0.mk (show ∀ k, Sb k → w.heap.size ≤ k from hM.above HLa2.out HBa.out.size)
        have HLVb := Aside0.mk (HLVa.out.mv hM)
        have HRb := Aside0.mk hR
        have HSZ := Aside0.mk HBa.out.size
        have hOP := jOpen.again hJ H3.out.1.good H3.out.2.2.2.2 false H3.out.2.2.2.1
        rw [H3.out.2.1, H3.out.2.2.1] at hOP
        have HOP2 := Aside0.mk hOP
        clear hJ hM hR hOP HOP HBa HLVa HLa2
        go_wp2_with fail
        refine HOP2.out.mono ?_
        rintro e wc ⟨jb2, A2, cc2, Sc, rfl, hJ, hM, hR⟩
        have HBc := Aside0.mk (hM.base HBb.out HLb.out HBb.out.size)
        have HLc := Aside0.mk (show ∀ k, Sc k → w.heap.size ≤ k from hM.above HLb.out HBb.out.size)
        have HLVc := Aside0.mk (HLVb.out.mv hM)
        have HRc := Aside0.mk (row_mv HRb.out hM)
        have HR2 := Aside0.mk (Kd.R_reads' hR).2.2
        have HC1 := Aside0.mk (Kd.R_reads' (row_mv HRb.out hM)).2.2
        have HJc := Aside0.mk hJ
        have hmil := HKS.out.mil HN40.out
        have HMIL := Aside0.mk hmil
        have hmore : wrap64 ((L.length : Int) - (sur.length : Int)) = (k : Int) := more_is HL.out.1 HL.out.2.1 hmil.2
        have m0 : decide ((k : Int) < 0) = false := decide_eq_false (by omega)
        have p0 : ¬ (k : Int) < 0 := by omega
        have p1 : ¬ (grp.length : Int) < (k : Int) := by have := HL.out.2.1; omega
        have m1 : decide ((k : Int) > (grp.length : Int)) = false := decide_eq_false (by have := HL.out.2.1; omega)
        have HSA := Aside0.mk (jsame.calls (c0 := cc1) (c1 := cc2) wc HC1.out HR2.out (len_mil HL.out.1 hmil.1 hmil.2))
        have ez := hEb
        clear hJ hM hR hmil HOP2 HLVb HRb HBb HLb
        go_wp2_with fail
        rw [hmore]
        have HLM := Aside0.mk (len_mil HL.out.1 HMIL.out.1 HMIL.out.2)
        refine HSA.out.mono ?_
        rintro e wd ⟨rfl, hdw⟩
        rw [sameN_refl]
        have hbd := hdw.below
        have HBd := Aside0.mk (HBc.out.trans (hbd.mono HBc.out.size))
        have HJd := Aside0.mk (HJc.out.below hbd)
        have HRd := Aside0.mk (Kd.R_below HRc.out hbd)
        have HC1d := Aside0.mk (Kd.C_below HC1.out hbd)
        obtain ⟨⟨hsS, hsG, hh1, hh2, hh3, hh4⟩, hhn⟩ := HLVc.out.below hbd
        have HH3 := Aside0.mk hh3
        have HH4 := Aside0.mk hh4
        have hcs := (Kd.R_reads' hh1).2.2
        rw [hh3.1] at hcs
        have HCS := Aside0.mk hcs
        have HCG := Aside0.mk (cut_heads (Kd.R_reads' hh2).2.2 hh4.1 HL.out.2.1)
        have hkc : k ≤ cg := Nat.le_trans HL.out.2.1 HCSG.out.2
        clear hdw hbd hh1 hh2 hh3 hh4 hhn hcs HSA HLVc HC1 HR2 HRc HJc
        go_wp2_with fail
        refine start_ (n := 9) (S := fun w' => True) (ds := []) #[false, false, false, false, false, false, false, false, false] (by kernel_rfl) rfl rfl trivial (fun hHeld => ?_)
        refine pure_ (i := 0) (N := some 162) (v := ?_) (a' := ?_) #[true, false, false, false, false, false, false, false, false] rfl rfl (by kernel_rfl) (fun _ _ _ h => h) (Or.inl ⟨by rfl, ?_⟩) ?_ ?_
        rotate_left
        · intro w'
          go_simp
          with_reducible rfl
        rotate_left
        · simp only [Act.put, List.setIfInBounds_toArray, List.set_cons_zero, List.set_cons_succ, i64_w, i32_w]
          rfl
        refine pure_ (i := 1) (N := some 163) (v := ?_) (a' := ?_) #[true, true, false, false, false, false, false, false, false] rfl rfl (by kernel_rfl) (fun _ _ _ h => h) (Or.inl ⟨by rfl, ?_⟩) ?_ ?_
        rotate_left
        · intro w'
          go_simp
          with_reducible rfl
        rotate_left
        · simp only [Act.put, List.setIfInBounds_toArray, List.set_cons_zero, List.set_cons_succ, i64_w, i32_w]
          rfl
        refine pure_ (i := 3) (N := some 165) (v := ?_) (a' := ?_) #[true, true, false, true, false, false, false, false, false] rfl rfl (by kernel_rfl) (fun _ _ _ h => h) (Or.inl ⟨by rfl, ?_⟩) ?_ ?_
        rotate_left
        · intro w'
          go_simp
          with_reducible rfl
        rotate_left
        · simp only [Act.put, List.setIfInBounds_toArray, List.set_cons_zero, List.set_cons_succ, i64_w, i32_w]
          rfl
        refine pure_ (i := 4) (N := some 166) (v := ?_) (a' := ?_) #[true, true, false, true, true, false, false, false, false] rfl rfl (by kernel_rfl) (fun _ _ _ h => h) (Or.inl ⟨by rfl, ?_⟩) ?_ ?_
        rotate_left
        · intro w'
          go_simp
          with_reducible rfl
        rotate_left
        · simp only [Act.put, List.setIfInBounds_toArray, List.set_cons_zero, List.set_cons_succ, i64_w, i32_w]
          rfl
        refine take_ (i := 5) (N := some 167) (v := ?_) (a' := ?_) #[true, true, false, true, true, true, false, false, false] rfl rfl (by kernel_rfl) (fun _ _ _ h => h) (Or.inl ⟨by rfl, ?_⟩) hHeld ?_ ?_
        rotate_left
        · intro w' _
          go_simp
          with_reducible rfl
        rotate_left
        · simp only [Act.put, List.setIfInBounds_toArray, List.set_cons_zero, List.set_cons_succ, i64_w, i32_w]
          rfl
        refine one_ (i := 2) (N := some 164) #[true, true, true, true, true, true, false, false, false] rfl rfl (by kernel_rfl) (by decide) (fun K hK => ?_)
        refine Kd.R_append_rows_step dH (w0 := wd) wd.heap.size (by rfl) _ _ 29 22 (.slice none 0 0) 24 rfl Try.underlying29 info22 rfl (by decide) (by decide) (.slice none 0 0) [] hsS As sur.length cs (fun _ => True) (fun _ => False) rfl rfl (Kd.R_nil _ _ _ _ _) (Kd.C_below HCS.out (below_drew (Below.refl _ _))) (fun _ _ h => h) (fun _ h => h.elim) (fun _ _ => trivial) (below_drew (Below.refl _ _)) (Nat.le_refl _) (ks_nil HMIL.out.1) ?_
        intro v3 w3 ho3 hb3 hg3 hat3
        rw [List.nil_append] at ho3
        obtain ⟨A3, c3, rfl⟩ := Kd.R_slice ho3
        have HO3 := Aside0.mk ho3
        have HB3 := Aside0.mk hb3
        clear ho3 hb3 hg3 hat3
        refine hK.out _ _ trivial (fun hHeld => ?_)
        clear hK K
        refine norm_ (a' := ?_) ?_ ?_
        rotate_left
        · show Act.put _ (some 164) _ = _
          simp only [Act.put, List.setIfInBounds_toArray, List.set_cons_zero, List.set_cons_succ, i64_w, i32_w]
          rfl
        refine one_ (i := 6) (N := some 168) #[true, true, true, true, true, true, true, false, false] rfl rfl (by kernel_rfl) (by decide) (fun K hK => ?_)
        refine Kd.R_append_rows_step dH (w0 := wd) wd.heap.size (by rfl) _ _ 29 22 (.slice none 0 0) 24 rfl Try.underlying29 info22 rfl (by decide) (by decide) (.slice A3 hsS.length c3) hsS (hsG.take k) Ag k cg (fun _ => True) (fun _ => False) rfl rfl HO3.out (Kd.C_below HCG.out HB3.out) (fun _ _ h => h) (fun _ h => h.elim) (fun _ _ => trivial) HB3.out HB3.out.size (ks_two HH3.out.1 HMIL.out.1 HL.out.2.1 HMIL.out.2) ?_
        intro v5 w5 ho5 hb5 hg5 hat5
        obtain ⟨A5, c5, rfl, hC5⟩ := kept_same ho5 hb5 HH3.out HH4.out HL.out.1
        have HS5 := Aside0.mk (jsame.calls (c0 := cc1) (c1 := c5) w5 (Kd.C_below HC1d.out hb5) hC5 HLM.out)
        have HB5 := Aside0.mk hb5
        clear ho5 hb5 hg5 hat5 hC5
        refine hK.out _ _ trivial (fun hHeld => ?_)
        clear hK K
        refine norm_ (a' := ?_) ?_ ?_
        rotate_left
        · show Act.put _ (some 168) _ = _
          simp only [Act.put, List.setIfInBounds_toArray, List.set_cons_zero, List.set_cons_succ, i64_w, i32_w]
          rfl
        refine one_ (i := 7) (N := some 169) #[true, true, true, true, true, true, true, true, false] rfl rfl (by kernel_rfl) (by decide) (fun K hK => ?_)
        refine goes_ Try.func13 (by kernel_rfl) rfl #[.slice A1 L.length cc1, .slice A5 L.length c5] (by rfl) rfl rfl (by simp only [List.map_toArray, List.map_cons, List.map_nil]; rfl) ?_
        with_reducible refine (HS5.out).mono ?_
        rintro e w6 ⟨rfl, hd6_⟩
        refine ⟨_, rfl, ?_⟩
        rw [sameN_refl]
        have HD6 := Aside0.mk (HB5.out.trans (hd6_.below.mono HB5.out.size))
        clear hd6_
        refine hK.out _ _ trivial (fun hHeld => ?_)
        clear hK K
        refine norm_ (a' := ?_) ?_ ?_
        rotate_left
        · show Act.put _ (some 169) _ = _
          simp only [Act.put, List.setIfInBounds_toArray, List.set_cons_zero, List.set_cons_succ, i64_w, i32_w]
          rfl
        refine pure_ (i := 8) (N := some 170) (v := ?_) (a' := ?_) #[true, true, true, true, true, true, true, true, true] rfl rfl (by kernel_rfl) (fun _ _ _ h => h) (Or.inl ⟨by rfl, ?_⟩) ?_ ?_
        rotate_left
        · intro w'
          go_simp
          with_reducible rfl
        rotate_left
        · simp only [Act.put, List.setIfInBounds_toArray, List.set_cons_zero, List.set_cons_succ, i64_w, i32_w]
          rfl
        refine done_ (by kernel_rfl) ?_
        go_wp2_with fail
        rw [en]
        go_roundw
        case rel => exact ⟨n + 1, by omega, rfl, ⟨jb1, Sc, L, [], _, _, rfl, ⟨H3.out.1, by rw [HL.out.1]; exact HKS.out.lost, HJd.out.below HD6.out, HLc.out, (lv_opened HRd.out HSZ.out).below HD6.out⟩⟩, ⟨HBd.out.trans (HD6.out.mono HBd.out.size)⟩⟩
        case measure => simp [intOf]; omega
    have t1b : (z == 1) = false := by simpa using t1
    clear t1
    by_cases t2 : z = 2
    case pos =>
      have tb : (z == 2) = true := by simpa using t2
      clear t2
      go_wp2_with fail
      refine HK1.out.many.mono ?_
      rintro e w2 ⟨rfl, hJ, hM⟩
      have HK2 := Aside0.mk (HK1.out.dropped hJ hM)
      have HB2 := Aside0.mk (hM.base HB1.out HK1.out.low HB1.out.size)
      clear hJ hM HK1 HB1 HQ q0
      go_wp2_with fail
      refine (on_yes HK2.out).mono ?_
      rintro e wo ⟨rfl, rfl⟩
      go_wp2_with fail
      rw [en]
      go_roundw
      case rel => exact ⟨n + 1, by omega, rfl, ⟨_, _, _, _, _, _, rfl, HK2⟩, HB2⟩
      case measure => simp [intOf]; omega
    have t2b : (z == 2) = false := by simpa using t2
    clear t2
    by_cases t4 : z = 4
    case pos =>
      have tb : (z == 4) = true := by simpa using t4
      clear t4
      have q2 : w1.cell? ⟨wr.heap.size, 2, none⟩ = some (.int .i64 a.n) := HQ.out.cell 2
      have q3 : w1.cell? ⟨wr.heap.size, 3, none⟩ = some (.bool a.behind) := HQ.out.cell 3
      have HAR := Aside0.mk (HK1.out.jn.act (fun ok hA => disk_Arm.all hA HK1.out.ki.good a.n a.behind))
      go_wp2_with fail
      refine HAR.out.mono ?_
      rintro e w2 ⟨rfl, S2, hJ, hM⟩
      have HK2 := Aside0.mk (HK1.out.armed HB1.out.size HLa.out hJ hM)
      have HB2 := Aside0.mk (hM.base HB1.out HK1.out.low HB1.out.size)
      clear hJ hM HK1 HB1 HQ q0 q2 q3 HAR
      go_wp2_with fail
      refine (on_yes HK2.out).mono ?_
      rintro e wo ⟨rfl, rfl⟩
      go_wp2_with fail
      rw [en]
      go_roundw
      case rel => exact ⟨n + 1, by omega, rfl, ⟨_, _, _, _, _, _, rfl, HK2⟩, HB2⟩
      case measure => simp [intOf]; omega
    have t4b : (z == 4) = false := by simpa using t4
    clear t4
    by_cases t5 : z = 5
    case pos =>
      have tb : (z == 5) = true := by simpa using t5
      clear t5
      have HFL := Aside0.mk (dn_Fail HK1.out.jn.dn HK1.out.ki.good)
      have HKX := Aside0.mk (ki_fail HK1.out.ki)
      have HKS := Aside0.mk HK1.out.ks
      go_wp2_with fail
      refine HFL.out.mono ?_
      rintro e w2 ⟨rfl, S2, hD, hM⟩
      have HD2 := Aside0.mk hD
      have HLV2 := Aside0.mk (HK1.out.lv.mv hM)
      have HB2 := Aside0.mk (hM.base HB1.out HK1.out.low HB1.out.size)
      have HLW2 := Aside0.mk (show ∀ k, S2 k → w.heap.size ≤ k from hM.above HK1.out.low HB1.out.size)
      have HQ2 := Aside0.mk (blk_mv HQ.out HPS.out hM).1
      clear hD hM HK1 HB1 HQ HPS q0 HFL
      go_wp2_with fail
      refine (on_no HD2.out HKX.out).mono ?_
      rintro e wo ⟨rfl, rfl⟩
      have q4 : wo.cell? ⟨wr.heap.size, 4, none⟩ = some (.int .i64 k0) := HQ2.out.cell 4
      have q5 : wo.cell? ⟨wr.heap.size, 5, none⟩ = some (.int .i64 k1) := HQ2.out.cell 5
      have q6 : wo.cell? ⟨wr.heap.size, 6, none⟩ = some (.bool c0) := HQ2.out.cell 6
      have q7 : wo.cell? ⟨wr.heap.size, 7, none⟩ = some (.bool c1) := HQ2.out.cell 7
      obtain ⟨hE0, hg2, hc2, hr2, k, hk, hzk, hsc, hki, ho3, hs3⟩ := kx_end HKX.out k0 k1 c0 c1
      have hst := dn_Start HD2.out HKX.out.good k0 k1 c0 c1
      rw [hE0] at hst
      have hr3 : (openD false (startD k0 k1 c0 c1 (offD d))).root = iv false := hki.root
      have hc3 := calm_open hc2 false
      obtain ⟨d2, hd2⟩ : ∃ d2, d2 = startD k0 k1 c0 c1 (offD d) := ⟨_, rfl⟩
      rw [← hd2] at hg2 hc2 hr2 hsc hki ho3 hs3 hst hr3 hc3
      obtain ⟨L, hL⟩ : ∃ L, L = sur ++ grp.take k := ⟨_, rfl⟩
      rw [← hL] at hsc hki hs3
      have HST := Aside0.mk hst
      have H2 := Aside0.mk (And.intro hg2 (And.intro hc2 (And.intro hr2 hsc)))
      have H3 := Aside0.mk (And.intro hki (And.intro ho3 (And.intro hs3 (And.intro hr3 hc3))))
      have HL := Aside0.mk (And.intro hL (And.intro hk hzk))
      clear hE0 hg2 hc2 hr2 hsc hki ho3 hs3 hr3 hc3 hst hd2 hL hk hzk
      go_wp2_with fail
      refine HST.out.mono ?_
      rintro e wa ⟨rfl, Sa, hD, hM⟩
      have HBa := Aside0.mk (hM.base HB2.out HLW2.out HB2.out.size)
      have HLa2 := Aside0.mk (show ∀ k, Sa k → w.heap.size ≤ k from hM.above HLW2.out HB2.out.size)
      have HLVa := Aside0.mk (HLV2.out.mv hM)
      have hOP := jOpen.calls hD H2.out.1 H2.out.2.1.on H2.out.2.1.no false H2.out.2.2.1
      rw [H2.out.2.2.2] at hOP
      have HOP := Aside0.mk hOP
      clear hD hM hOP HST q4 q5 q6 q7
      go_wp2_with fail
      refine HOP.out.mono ?_
      rintro e wb ⟨jb1, A1, cc1, Sb, rfl, hJ, hM, hR⟩
      have HBb := Aside0.mk (hM.base HBa.out HLa2.out HBa.out.size)
      have HLb := Aside0.mk (show ∀ k, Sb k → w.heap.size ≤ k from hM.above HLa2.out HBa.out.size)
      have HLVb := Aside0.mk (HLVa.out.mv hM)
      have HRb := Aside0.mk hR
      have HSZ := Aside0.mk HBa.out.size
      have hOP := jOpen.again hJ H3.out.1.good H3.out.2.2.2.2 false H3.out.2.2.2.1
      rw [H3.out.2.1, H3.out.2.2.1] at hOP
      have HOP2 := Aside0.mk hOP
      clear hJ hM hR hOP HOP HBa HLVa HLa2
      go_wp2_with fail
      refine HOP2.out.mono ?_
      rintro e wc ⟨jb2, A2, cc2, Sc, rfl, hJ, hM, hR⟩
      have HBc := Aside0.mk (hM.base HBb.out HLb.out HBb.out.size)
      have HLc := Aside0.mk (show ∀ k, Sc k → w.heap.size ≤ k from hM.above HLb.out HBb.out.size)
      have HLVc := Aside0.mk (HLVb.out.mv hM)
      have HRc := Aside0.mk (row_mv HRb.out hM)
      have HR2 := Aside0.mk (Kd.R_reads' hR).2.2
      have HC1 := Aside0.mk (Kd.R_reads' (row_mv HRb.out hM)).2.2
      have HJc := Aside0.mk hJ
      have hmil := HKS.out.mil HN40.out
      have HMIL := Aside0.mk hmil
      have hmore : wrap64 ((L.length : Int) - (sur.length : Int)) = (k : Int) := more_is HL.out.1 HL.out.2.1 hmil.2
      have m0 : decide ((k : Int) < 0) = false := decide_eq_false (by omega)
      have p0 : ¬ (k : Int) < 0 := by omega
      have p1 : ¬ (grp.length : Int) < (k : Int) := by have := HL.out.2.1; omega
      have m1 : decide ((k : Int) > (grp.length : Int)) = false := decide_eq_false (by have := HL.out.2.1; omega)
      have HSA := Aside0.mk (jsame.calls (c0 := cc1) (c1 := cc2) wc HC1.out HR2.out (len_mil HL.out.1 hmil.1 hmil.2))
      have mz : decide ((k : Int) > 0) = false := take_zero (HL.out.2.2 trivial) HL.out.2.1
      have pz : ¬ (0 : Int) < (k : Int) := of_decide_eq_false mz
      clear hJ hM hR hmil HOP2 HLVb HRb HBb HLb
      go_wp2_with fail
      rw [hmore]
      have HLM := Aside0.mk (len_mil HL.out.1 HMIL.out.1 HMIL.out.2)
      refine HSA.out.mono ?_
      rintro e wd ⟨rfl, hdw⟩
      rw [sameN_refl]
      have hbd := hdw.below
      have HBd := Aside0.mk (HBc.out.trans (hbd.mono HBc.out.size))
      have HJd := Aside0.mk (HJc.out.below hbd)
      have HRd := Aside0.mk (Kd.R_below HRc.out hbd)
      have HC1d := Aside0.mk (Kd.C_below HC1.out hbd)
      obtain ⟨⟨hsS, hsG, hh1, hh2, hh3, hh4⟩, hhn⟩ := HLVc.out.below hbd
      have HH3 := Aside0.mk hh3
      have HH4 := Aside0.mk hh4
      have hcs := (Kd.R_reads' hh1).2.2
      rw [hh3.1] at hcs
      have HCS := Aside0.mk hcs
      have HCG := Aside0.mk (cut_heads (Kd.R_reads' hh2).2.2 hh4.1 HL.out.2.1)
      have hkc : k ≤ cg := Nat.le_trans HL.out.2.1 HCSG.out.2
      clear hdw hbd hh1 hh2 hh3 hh4 hhn hcs HSA HLVc HC1 HR2 HRc HJc
      go_wp2_with fail
      refine start_ (n := 9) (S := fun w' => True) (ds := []) #[false, false, false, false, false, false, false, false, false] (by kernel_rfl) rfl rfl trivial (fun hHeld => ?_)
      refine pure_ (i := 0) (N := some 162) (v := ?_) (a' := ?_) #[true, false, false, false, false, false, false, false, false] rfl rfl (by kernel_rfl) (fun _ _ _ h => h) (Or.inl ⟨by rfl, ?_⟩) ?_ ?_
      rotate_left
      · intro w'
        go_simp
        with_reducible rfl
      rotate_left
      · simp only [Act.put, List.setIfInBounds_toArray, List.set_cons_zero, List.set_cons_succ, i64_w, i32_w]
        rfl
      refine pure_ (i := 1) (N := some 163) (v := ?_) (a' := ?_) #[true, true, false, false, false, false, false, false, false] rfl rfl (by kernel_rfl) (fun _ _ _ h => h) (Or.inl ⟨by rfl, ?_⟩) ?_ ?_
      rotate_left
      · intro w'
        go_simp
        with_reducible rfl
      rotate_left
      · simp only [Act.put, List.setIfInBounds_toArray, List.set_cons_zero, List.set_cons_succ, i64_w, i32_w]
        rfl
      refine pure_ (i := 3) (N := some 165) (v := ?_) (a' := ?_) #[true, true, false, true, false, false, false, false, false] rfl rfl (by kernel_rfl) (fun _ _ _ h => h) (Or.inl ⟨by rfl, ?_⟩) ?_ ?_
      rotate_left
      · intro w'
        go_simp
        with_reducible rfl
      rotate_left
      · simp only [Act.put, List.setIfInBounds_toArray, List.set_cons_zero, List.set_cons_succ, i64_w, i32_w]
        rfl
      refine pure_ (i := 4) (N := some 166) (v := ?_) (a' := ?_) #[true, true, false, true, true, false, false, false, false] rfl rfl (by kernel_rfl) (fun _ _ _ h => h) (Or.inl ⟨by rfl, ?_⟩) ?_ ?_
      rotate_left
      · intro w'
        go_simp
        with_reducible rfl
      rotate_left
      · simp only [Act.put, List.setIfInBounds_toArray, List.set_cons_zero, List.set_cons_succ, i64_w, i32_w]
        rfl
      refine take_ (i := 5) (N := some 167) (v := ?_) (a' := ?_) #[true, true, false, true, true, true, false, false, false] rfl rfl (by kernel_rfl) (fun _ _ _ h => h) (Or.inl ⟨by rfl, ?_⟩) hHeld ?_ ?_
      rotate_left
      · intro w' _
        go_simp
        with_reducible rfl
      rotate_left
      · simp only [Act.put, List.setIfInBounds_toArray, List.set_cons_zero, List.set_cons_succ, i64_w, i32_w]
        rfl
      refine one_ (i := 2) (N := some 164) #[true, true, true, true, true, true, false, false, false] rfl rfl (by kernel_rfl) (by decide) (fun K hK => ?_)
      refine Kd.R_append_rows_step dH (w0 := wd) wd.heap.size (by rfl) _ _ 29 22 (.slice none 0 0) 24 rfl Try.underlying29 info22 rfl (by decide) (by decide) (.slice none 0 0) [] hsS As sur.length cs (fun _ => True) (fun _ => False) rfl rfl (Kd.R_nil _ _ _ _ _) (Kd.C_below HCS.out (below_drew (Below.refl _ _))) (fun _ _ h => h) (fun _ h => h.elim) (fun _ _ => trivial) (below_drew (Below.refl _ _)) (Nat.le_refl _) (ks_nil HMIL.out.1) ?_
      intro v3 w3 ho3 hb3 hg3 hat3
      rw [List.nil_append] at ho3
      obtain ⟨A3, c3, rfl⟩ := Kd.R_slice ho3
      have HO3 := Aside0.mk ho3
      have HB3 := Aside0.mk hb3
      clear ho3 hb3 hg3 hat3
      refine hK.out _ _ trivial (fun hHeld => ?_)
      clear hK K
      refine norm_ (a' := ?_) ?_ ?_
      rotate_left
      · show Act.put _ (some 164) _ = _
        simp only [Act.put, List.setIfInBounds_toArray, List.set_cons_zero, List.set_cons_succ, i64_w, i32_w]
        rfl
      refine one_ (i := 6) (N := some 168) #[true, true, true, true, true, true, true, false, false] rfl rfl (by kernel_rfl) (by decide) (fun K hK => ?_)
      refine Kd.R_append_rows_step dH (w0 := wd) wd.heap.size (by rfl) _ _ 29 22 (.slice none 0 0) 24 rfl Try.underlying29 info22 rfl (by decide) (by decide) (.slice A3 hsS.length c3) hsS (hsG.take k) Ag k cg (fun _ => True) (fun _ => False) rfl rfl HO3.out (Kd.C_below HCG.out HB3.out) (fun _ _ h => h) (fun _ h => h.elim) (fun _ _ => trivial) HB3.out HB3.out.size (ks_two HH3.out.1 HMIL.out.1 HL.out.2.1 HMIL.out.2) ?_
      intro v5 w5 ho5 hb5 hg5 hat5
      obtain ⟨A5, c5, rfl, hC5⟩ := kept_same ho5 hb5 HH3.out HH4.out HL.out.1
      have HS5 := Aside0.mk (jsame.calls (c0 := cc1) (c1 := c5) w5 (Kd.C_below HC1d.out hb5) hC5 HLM.out)
      have HB5 := Aside0.mk hb5
      clear ho5 hb5 hg5 hat5 hC5
      refine hK.out _ _ trivial (fun hHeld => ?_)
      clear hK K
      refine norm_ (a' := ?_) ?_ ?_
      rotate_left
      · show Act.put _ (some 168) _ = _
        simp only [Act.put, List.setIfInBounds_toArray, List.set_cons_zero, List.set_cons_succ, i64_w, i32_w]
        rfl
      refine one_ (i := 7) (N := some 169) #[true, true, true, true, true, true, true, true, false] rfl rfl (by kernel_rfl) (by decide) (fun K hK => ?_)
      refine goes_ Try.func13 (by kernel_rfl) rfl #[.slice A1 L.length cc1, .slice A5 L.length c5] (by rfl) rfl rfl (by simp only [List.map_toArray, List.map_cons, List.map_nil]; rfl) ?_
      with_reducible refine (HS5.out).mono ?_
      rintro e w6 ⟨rfl, hd6_⟩
      refine ⟨_, rfl, ?_⟩
      rw [sameN_refl]
      have HD6 := Aside0.mk (HB5.out.trans (hd6_.below.mono HB5.out.size))
      clear hd6_
      refine hK.out _ _ trivial (fun hHeld => ?_)
      clear hK K
      refine norm_ (a' := ?_) ?_ ?_
      rotate_left
      · show Act.put _ (some 169) _ = _
        simp only [Act.put, List.setIfInBounds_toArray, List.set_cons_zero, List.set_cons_succ, i64_w, i32_w]
        rfl
      refine pure_ (i := 8) (N := some 170) (v := ?_) (a' := ?_) #[true, true, true, true, true, true, true, true, true] rfl rfl (by kernel_rfl) (fun _ _ _ h => h) (Or.inl ⟨by rfl, ?_⟩) ?_ ?_
      rotate_left
      · intro w'
        go_simp
        with_reducible rfl
      rotate_left
      · simp only [Act.put, List.setIfInBounds_toArray, List.set_cons_zero, List.set_cons_succ, i64_w, i32_w]
        rfl
      refine done_ (by kernel_rfl) ?_
      go_wp2_with fail
      rw [en]
      go_roundw
      case rel => exact ⟨n + 1, by omega, rfl, ⟨jb1, Sc, L, [], _, _, rfl, ⟨H3.out.1, by rw [HL.out.1]; exact HKS.out.lost, HJd.out.below HD6.out, HLc.out, (lv_opened HRd.out HSZ.out).below HD6.out⟩⟩, ⟨HBd.out.trans (HD6.out.mono HBd.out.size)⟩⟩
      case measure => simp [intOf]; omega
    have t5b : (z == 5) = false := by simpa using t5
    clear t5
    have HK2 := Aside0.mk HK1.out.next
    go_wp2_with fail
    refine (on_yes HK2.out).mono ?_
    rintro e wo ⟨rfl, rfl⟩
    go_wp2_with fail
    rw [en]
    go_roundw
    case rel => exact ⟨n + 1, by omega, rfl, ⟨_, _, _, _, _, _, rfl, HK2⟩, HB1⟩
    case measure => simp [intOf]; omega
end Go.Proofs.Ytdlfabbhdelinaa.Q
