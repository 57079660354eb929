/- A journal's law of Snapshots, walked. No condition but those typed. -/
import Derived.Test.YtdlfabbhdelinaaWalk0
import Derived.Test.YtdlfabbhdelinaaDisk09
import Derived.Test.YtdlfabbhdelinaaJw5
import Derived.Outline
namespace Go.Proofs.Ytdlfabbhdelinaa.Q
open Go.RowKit Go.Proofs.YtdlfabbhdelinaaW.PrintWords Go.Proofs.YtdlfabbhdelinaaW.PrintLast Go.Proofs.YtdlfabbhdelinaaW.PrintMore
open Go.Proofs.Ytdlfabbhdelinaa.Dk
attribute [local go_sem] max2_int min2_int max_two min_two max_three min_three max_four min_four   -- for this text's walks alone
set_option linter.unusedVariables false
set_option linter.unusedSimpArgs false
set_option maxRecDepth 100000
/-- The live file is the first one, and has x; or the other, and has y. -/
def PA (x : List Int) (d : D) : Prop := d.root = 0 ∧ d.a = ⟨x, x, -1⟩
def PB (y : List Int) (d : D) : Prop := d.root = 1 ∧ d.b = ⟨y, y, -1⟩
theorem act_step {d : D} (ho : d.off = false) {dof : D → D} {P Q : D → Prop} (hP : ∀ o f, P { d with off := o, fuse := f }) (hQ : ∀ o f, Q (dof { d with off := o, fuse := f })) (hoff : ∀ d, (dof d).off = d.off) :
    (actE 0 d = 0 ∧ (actD 0 dof d).off = false ∧ Q (actD 0 dof d)) ∨ (actE 0 d = 12 ∧ (P (actD 0 dof d) ∨ Q (actD 0 dof d))) := by
  have e : ∀ f, { d with fuse := f } = { d with off := d.off, fuse := f } := fun _ => rfl
  have e2 : d = { d with off := d.off, fuse := d.fuse } := rfl
  have eE : actE 0 d = if d.fuse = 0 then 12 else 0 := if_neg (by decide)
  have eD : actD 0 dof d = if 0 < d.fuse then dof { d with fuse := d.fuse - 1 } else if d.fuse = 0 then (if d.behind = true then dof { d with off := true, fuse := -1 } else { d with off := true, fuse := -1 }) else dof d := if_neg (by decide)
  rw [eE, eD]
  by_cases h1 : 0 < d.fuse
  · rw [if_pos h1, if_neg (show ¬ d.fuse = 0 by omega)]
    exact .inl ⟨rfl, (hoff _).trans ho, by rw [e]; exact hQ _ _⟩
  rw [if_neg h1]
  by_cases h2 : d.fuse = 0
  · rw [if_pos h2, if_pos h2]
    refine .inr ⟨rfl, ?_⟩
    split
    · exact .inr (hQ _ _)
    · exact .inl (hP _ _)
  · rw [if_neg h2, if_neg h2]
    exact .inl ⟨rfl, (hoff _).trans ho, by rw [e2]; exact hQ _ _⟩
theorem ap_on {d : D} (ho : d.off = false) (i : Bool) {b : List Int} (hr : room1 d b.length = 0) : apE (iv i) b d = actE 0 d ∧ apD (iv i) b d = actD 0 (app i b) d := by
  unfold apE apD gateE gateD
  rw [fe_on ho i, hr, bi_iv, if_neg (by decide), if_neg (by decide)]
  exact ⟨rfl, rfl⟩
theorem sy_on {d : D} (ho : d.off = false) (i : Bool) : syE (iv i) d = actE 0 d ∧ syD (iv i) d = actD 0 (syn i) d := by
  unfold syE syD gateE gateD
  rw [fe_on ho i, bi_iv, if_neg (by decide), if_neg (by decide)]
  exact ⟨rfl, rfl⟩
theorem sw_on {d : D} (ho : d.off = false) (i : Bool) : swE (iv i) d = actE 0 d ∧ swD (iv i) d = actD 0 (swi (iv i)) d := by
  unfold swE swD gateE gateD
  rw [fe_on ho i, if_neg (by decide), if_neg (by decide)]
  exact ⟨rfl, rfl⟩
theorem tr_on {d : D} (ho : d.off = false) (i : Bool) : trE (iv i) 0 d = actE 0 d ∧ trD (iv i) 0 d = actD 0 (tru i 0) d := by
  have ht : troom 0 (d.fl i) = 0 := if_neg (by omega)
  unfold trE trD gateE gateD
  rw [fe_on ho i, bi_iv, ht, if_neg (by decide), if_neg (by decide)]
  exact ⟨rfl, rfl⟩
/-- What a Snapshot leaves, whatever the fuse. -/
def SnOut (x y : List Int) (E : Int) (d : D) : Prop := (E = 0 ∧ PB y d) ∨ (E = 12 ∧ (PA x d ∨ PB y d))
theorem sn5_out {x y : List Int} {d : D} (ho : d.off = false) (h : PB y d) : SnOut x y (sn5 false d).1 (sn5 false d).2.1 := by
  unfold sn5
  rw [(tr_on ho false).1, (tr_on ho false).2]
  rcases act_step (P := PB y) (Q := PB y) ho (dof := tru false 0) (fun _ _ => h) (fun _ _ => h) (fun _ => rfl) with ⟨he, ho2, hq⟩ | ⟨he, hq⟩
  · rw [he, if_neg (by decide)]
    generalize actD 0 (tru false 0) d = d2 at ho2 hq
    dsimp only
    rw [(sy_on ho2 false).1, (sy_on ho2 false).2]
    rcases act_step (P := PB y) (Q := PB y) ho2 (dof := syn false) (fun _ _ => hq) (fun _ _ => hq) (fun _ => rfl) with ⟨he, ho3, hq3⟩ | ⟨he, hq3⟩
    · exact .inl ⟨he, hq3⟩
    · exact .inr ⟨he, .inr (hq3.elim id id)⟩
  · rw [he, if_pos (by decide)]
    exact .inr ⟨rfl, .inr (hq.elim id id)⟩
theorem sn3_out {x y : List Int} {d : D} (ho : d.off = false) (h : PA x d) (hb : d.b = ⟨y, y, -1⟩) : SnOut x y (sn3 false d).1 (sn3 false d).2.1 := by
  unfold sn3
  rw [(sw_on ho (!false)).1, (sw_on ho (!false)).2]
  rcases act_step (P := PA x) (Q := PB y) ho (dof := swi (iv (!false))) (fun _ _ => h) (fun _ _ => ⟨rfl, hb⟩) (fun _ => rfl) with ⟨he, ho2, hq⟩ | ⟨he, hq⟩
  · rw [he, if_neg (by decide)]
    exact sn5_out ho2 hq
  · rw [he, if_pos (by decide)]
    exact .inr ⟨rfl, hq⟩
theorem sn2_out {x y z : List Int} {c : Int} {d : D} (ho : d.off = false) (h : PA x d) (hb : d.b = ⟨y, z, c⟩) : SnOut x y (sn2 false d).1 (sn2 false d).2.1 := by
  unfold sn2
  rw [(sy_on ho (!false)).1, (sy_on ho (!false)).2]
  rcases act_step (P := PA x) (Q := fun d => PA x d ∧ d.b = ⟨y, y, -1⟩) ho (dof := syn (!false)) (fun _ _ => h) (fun _ _ => ⟨h, by show (⟨d.b.now, d.b.now, -1⟩ : Fl) = _; rw [hb]⟩) (fun _ => rfl) with ⟨he, ho2, hq⟩ | ⟨he, hq⟩
  · rw [he, if_neg (by decide)]
    exact sn3_out ho2 hq.1 hq.2
  · rw [he, if_pos (by decide)]
    exact .inr ⟨rfl, .inl (hq.elim id (fun z => z.1))⟩
theorem sn1_out {x y : List Int} {d : D} (ho : d.off = false) (h : PA x d) (hb : d.b = ⟨[], [], -1⟩) (hr : room1 d y.length = 0) : SnOut x y (sn1 false y d).1 (sn1 false y d).2.1 := by
  unfold sn1
  rw [(ap_on ho (!false) hr).1, (ap_on ho (!false) hr).2]
  rcases act_step (P := PA x) (Q := fun d => PA x d ∧ d.b = ⟨y, [], -1⟩) ho (dof := app (!false) y) (fun _ _ => h) (fun _ _ => ⟨h, by show (⟨d.b.now ++ y, d.b.sure, d.b.cut⟩ : Fl) = _; rw [hb]; rfl⟩) (fun _ => rfl) with ⟨he, ho2, hq⟩ | ⟨he, hq⟩
  · rw [he, if_neg (by decide)]
    exact sn2_out ho2 hq.1 hq.2
  · rw [he, if_pos (by decide)]
    exact .inr ⟨rfl, .inl (hq.elim id (fun z => z.1))⟩
theorem flat_mzs : ∀ {l : List (List Int)}, mzs l ≤ 20000 → (flat l).length ≤ mzs l
  | [], _ => Nat.zero_le _
  | r :: l, h => by
    have e : mzs (r :: l) = mz r + mzs l := by simp [mzs]
    rw [e] at h ⊢
    have ih := flat_mzs (l := l) (by omega)
    have hr : mz r = r.length + 8 := by
      unfold mz at *
      split
      · rename_i hh
        rw [if_pos hh] at h
        omega
      · rfl
    rw [Jr.flat_cons, List.length_append, frame_len]
    omega
def ac0 (l : List (List Int)) : Ac := ⟨0, l, 0, false, [0, 0], [false, false]⟩
theorem small3 {old young : List (List Int)} {a : Ac} (h : Small ([ac0 old, ac0 young, a].take (sh 3))) : old.length ≤ 20 ∧ young.length ≤ 20 ∧ (flat old).length ≤ 20000 ∧ (flat young).length ≤ 20000 := by
  have e : [ac0 old, ac0 young, a].take (sh 3) = [ac0 old, ac0 young, a] := by
    unfold sh
    rw [if_neg (by omega)]
    rfl
  rw [e] at h
  have e2 : mza [ac0 old, ac0 young, a] = mzs old + (mzs young + mzs a.recs) := by simp [mza, ac0]
  have hm := h.2
  rw [e2] at hm
  have h1 : mzs old ≤ 20000 := by omega
  have h2 : mzs young ≤ 20000 := by omega
  have f1 := flat_mzs h1
  have f2 := flat_mzs h2
  exact ⟨h.1 (ac0 old) (by simp), h.1 (ac0 young) (by simp), by omega, by omega⟩
def sp0 : D := newD 1048576
def sp1 (x : List Int) : D := ⟨⟨x, x, -1⟩, ⟨[], [], -1⟩, 0, 1048576, false, -1, false⟩
theorem sp_open : openD false sp0 = sp0 := by
  have h : Jr.scanF ([] : List Int) = [] := Jr.scan_flat0 (l := []) (fun _ h => by cases h)
  unfold openD
  rw [show (sp0.fl false).now = [] from rfl, h]
  rfl
theorem sp_left (x : List Int) : leftN (sp1 x) = 1048576 - (x.length : Int) := by
  show (1048576 : Int) - (x.length : Int) - 0 = _
  omega
theorem sp_left0 : leftN sp0 = 1048576 := rfl
theorem sp_frs {l : List (List Int)} {d : D} (hd : 1000000 ≤ leftN d) (hl : (flat l).length ≤ 20000) : (allOk l ∧ frsE l 0 d = 0) ∨ frsE l 0 d = 1 := by
  by_cases h : allOk l
  · refine .inl ⟨h, ?_⟩
    unfold frsE
    rw [if_pos h, if_neg (by omega)]
  · exact .inr (if_neg h)
theorem good_sp0 : Good sp0 := good_new (by decide) (by decide)
theorem sp_add {l : List (List Int)} (h : frsE l 0 sp0 = 0) : addJ l sp0 ⟨false, [], 0⟩ = ⟨false, flat l, (l.length : Int)⟩ := by
  have e : addJ l sp0 ⟨false, [], 0⟩ = ⟨false, [] ++ flat l, 0 + (l.length : Int)⟩ := if_pos h
  rw [e, Int.zero_add]
  rfl
theorem sp_add1 {l : List (List Int)} (h : frsE l 0 sp0 = 1) : addJ l sp0 ⟨false, [], 0⟩ = ⟨false, [], 0⟩ := if_neg (by show ¬ frsE l 0 sp0 = 0; rw [h]; decide)
theorem sp_room {x : List Int} (hx : x.length ≤ 20000) : room1 sp0 x.length = 0 := by
  show (if (1048576 : Int) - 0 - 0 < (x.length : Int) then (11 : Int) else 0) = 0
  rw [if_neg (by omega)]
theorem sp_com {l : List (List Int)} (hx : (flat l).length ≤ 20000) : comE sp0 ⟨false, flat l, (l.length : Int)⟩ = 0 ∧ comD sp0 ⟨false, flat l, (l.length : Int)⟩ = sp1 (flat l) ∧ comJ sp0 ⟨false, flat l, (l.length : Int)⟩ = ⟨false, [], 0⟩ := by
  by_cases h0 : (l.length : Int) = 0
  · have hl : l = [] := List.eq_nil_of_length_eq_zero (by omega)
    subst hl
    exact ⟨if_pos rfl, if_pos rfl, if_pos rfl⟩
  · have hif : ∀ {α : Type} (a b : α), (if (0 : Int) ≠ 0 then a else b) = b := fun a b => if_neg (by decide)
    have ha := apE_calm (calm_new 1048576) false (flat l)
    have hb := apD_calm (calm_new 1048576) false (sp_room hx)
    have hs := sy_calm (calm_app (calm_new 1048576) false (flat l)) false
    rw [show newD 1048576 = sp0 from rfl] at ha hb hs
    rw [sp_room hx] at ha
    have e1 : comE sp0 ⟨false, flat l, (l.length : Int)⟩ = if apE (iv false) (flat l) sp0 ≠ 0 then apE (iv false) (flat l) sp0 else syE (iv false) (apD (iv false) (flat l) sp0) := if_neg h0
    have e2 : comD sp0 ⟨false, flat l, (l.length : Int)⟩ = if apE (iv false) (flat l) sp0 ≠ 0 then apD (iv false) (flat l) sp0 else syD (iv false) (apD (iv false) (flat l) sp0) := if_neg h0
    have e3 : comJ sp0 ⟨false, flat l, (l.length : Int)⟩ = if apE (iv false) (flat l) sp0 ≠ 0 then ⟨false, flat l, (l.length : Int)⟩ else if syE (iv false) (apD (iv false) (flat l) sp0) ≠ 0 then ⟨false, flat l, (l.length : Int)⟩ else ⟨false, [], 0⟩ := if_neg h0
    rw [e1, e2, e3, ha, hif, hif, hif, hb, hs.1, hs.2, hif]
    exact ⟨rfl, rfl, rfl⟩
theorem good_sp1 {l : List (List Int)} (hx : (flat l).length ≤ 20000) : Good (sp1 (flat l)) := by
  rw [← (sp_com hx).2.1]
  exact good_comD good_sp0
theorem sp_snap {x : List Int} {young : List (List Int)} {n : Int} {b : Bool} (hx : x.length ≤ 20000) (hy : (flat young).length ≤ 20000) : 
    ((snap young (armD n b (sp1 x)) ⟨false, [], 0⟩).1 = 1 ∧ PA x (snap young (armD n b (sp1 x)) ⟨false, [], 0⟩).2.1) ∨ (allOk young ∧ SnOut x (flat young) (snap young (armD n b (sp1 x)) ⟨false, [], 0⟩).1 (snap young (armD n b (sp1 x)) ⟨false, [], 0⟩).2.1) := by
  have hl : 1000000 ≤ leftN (armD n b (sp1 x)) := by
    have := sp_left x
    show 1000000 ≤ leftN (sp1 x)
    omega
  rcases sp_frs hl hy with ⟨hk, he⟩ | he
  · have e : snap young (armD n b (sp1 x)) ⟨false, [], 0⟩ = ((sn1 false (flat young) (armD n b (sp1 x))).1, (sn1 false (flat young) (armD n b (sp1 x))).2.1, ⟨(sn1 false (flat young) (armD n b (sp1 x))).2.2, [], 0⟩) := (if_neg (by show ¬ (0 : Int) < 0; omega)).trans (if_neg (by rw [he]; decide))
    rw [e]
    refine .inr ⟨hk, sn1_out rfl ⟨rfl, rfl⟩ rfl ?_⟩
    show (if leftN (armD n b (sp1 x)) < ((flat young).length : Int) then (11 : Int) else 0) = 0
    rw [if_neg (by omega)]
  · have e : snap young (armD n b (sp1 x)) ⟨false, [], 0⟩ = (frsE young 0 (armD n b (sp1 x)), armD n b (sp1 x), ⟨false, [], 0⟩) := (if_neg (by show ¬ (0 : Int) < 0; omega)).trans (if_pos (by rw [he]; decide))
    rw [e]
    exact .inl ⟨he, ⟨rfl, rfl⟩⟩
theorem lost_self (k : Int) (c : Bool) (x : List Int) : (lost k c ⟨x, x, -1⟩).now = x := by
  rw [lost_none rfl]
  show lostT k x ⟨x, x, -1⟩ = x
  unfold lostT
  simp
def spE (k0 k1 : Int) (c0 c1 : Bool) (d : D) : D := startD k0 k1 c0 c1 (offD (armD (-1) false d))
theorem sp_startE (d : D) : startE (offD (armD (-1) false d)) = 0 := rfl
theorem sp_calm (k0 k1 : Int) (c0 c1 : Bool) (d : D) : Calm (spE k0 k1 c0 c1 d) := ⟨rfl, rfl⟩
theorem sp_A {x : List Int} {d : D} (h : PA x d) (k0 k1 : Int) (c0 c1 : Bool) : (spE k0 k1 c0 c1 d).root = iv false ∧ ((spE k0 k1 c0 c1 d).fl false).now = x := by
  refine ⟨h.1, ?_⟩
  show (lost k0 c0 d.a).now = x
  rw [h.2, lost_self]
theorem sp_B {x : List Int} {d : D} (h : PB x d) (k0 k1 : Int) (c0 c1 : Bool) : (spE k0 k1 c0 c1 d).root = iv true ∧ ((spE k0 k1 c0 c1 d).fl true).now = x := by
  refine ⟨h.1, ?_⟩
  show (lost k1 c1 d.b).now = x
  rw [h.2, lost_self]
/-- What a Snapshot's law sees behind the loss. -/
theorem sp_all {old young : List (List Int)} {n : Int} {b : Bool} (hx : (flat old).length ≤ 20000) (hy : (flat young).length ≤ 20000) (ho : allOk old) (k0 k1 : Int) (c0 c1 : Bool) :
    ∃ (i : Bool) (l : List (List Int)), (spE k0 k1 c0 c1 (snap young (armD n b (sp1 (flat old))) ⟨false, [], 0⟩).2.1).root = iv i ∧ Jr.scanF ((spE k0 k1 c0 c1 (snap young (armD n b (sp1 (flat old))) ⟨false, [], 0⟩).2.1).fl i).now = l ∧
      (((snap young (armD n b (sp1 (flat old))) ⟨false, [], 0⟩).1 = 0 ∧ l = young) ∨ ((snap young (armD n b (sp1 (flat old))) ⟨false, [], 0⟩).1 = 1 ∧ l = old) ∨ ((snap young (armD n b (sp1 (flat old))) ⟨false, [], 0⟩).1 = 12 ∧ (l = old ∨ l = young))) := by
  have hA : PA (flat old) (snap young (armD n b (sp1 (flat old))) ⟨false, [], 0⟩).2.1 → ∃ i, (spE k0 k1 c0 c1 (snap young (armD n b (sp1 (flat old))) ⟨false, [], 0⟩).2.1).root = iv i ∧ Jr.scanF ((spE k0 k1 c0 c1 (snap young (armD n b (sp1 (flat old))) ⟨false, [], 0⟩).2.1).fl i).now = old := fun h => ⟨false, (sp_A h k0 k1 c0 c1).1, by rw [(sp_A h k0 k1 c0 c1).2, Jr.scan_flat0 ho]⟩
  have hB : allOk young → PB (flat young) (snap young (armD n b (sp1 (flat old))) ⟨false, [], 0⟩).2.1 → ∃ i, (spE k0 k1 c0 c1 (snap young (armD n b (sp1 (flat old))) ⟨false, [], 0⟩).2.1).root = iv i ∧ Jr.scanF ((spE k0 k1 c0 c1 (snap young (armD n b (sp1 (flat old))) ⟨false, [], 0⟩).2.1).fl i).now = young := fun hk h => ⟨true, (sp_B h k0 k1 c0 c1).1, by rw [(sp_B h k0 k1 c0 c1).2, Jr.scan_flat0 hk]⟩
  rcases sp_snap (n := n) (b := b) hx hy with ⟨he, h⟩ | ⟨hk, ⟨he, h⟩ | ⟨he, h | h⟩⟩
  · obtain ⟨i, h1, h2⟩ := hA h
    exact ⟨i, old, h1, h2, .inr (.inl ⟨he, rfl⟩)⟩
  · obtain ⟨i, h1, h2⟩ := hB hk h
    exact ⟨i, young, h1, h2, .inl ⟨he, rfl⟩⟩
  · obtain ⟨i, h1, h2⟩ := hA h
    exact ⟨i, old, h1, h2, .inr (.inr ⟨he, .inl rfl⟩)⟩
  · obtain ⟨i, h1, h2⟩ := hB hk h
    exact ⟨i, young, h1, h2, .inr (.inr ⟨he, .inr rfl⟩)⟩
theorem C_three {W : World} {g : Nat} {old young : List (List Int)} {x : Ac} {A0 A1 Rx : Option Addr} {ca cb cx : Nat} {x0 x1 : Int} {y0 y1 : Bool} (h : Blk.At g #[.int .u8 0, .slice A0 old.length ca, .int .i64 0, .bool false, .int .i64 0, .int .i64 0, .bool false, .bool false, .int .u8 0, .slice A1 young.length cb, .int .i64 0, .bool false, .int .i64 0, .int .i64 0, .bool false, .bool false, .int .u8 x.kind, .slice Rx x.recs.length cx, .int .i64 x.n, .bool x.behind, .int .i64 x0, .int .i64 x1, .bool y0, .bool y1] 46 W)
    (h0 : (Kd.slice 5 (Kd.int .u8)).C W A0 old.length old) (hc0 : old.length ≤ ca) (h1 : (Kd.slice 5 (Kd.int .u8)).C W A1 young.length young) (hc1 : young.length ≤ cb) (hC : (Kd.slice 5 (Kd.int .u8)).C W Rx x.recs.length x.recs) (hb : x.recs.length ≤ cx) (hk : x.ks = [x0, x1]) (hc : x.cs = [y0, y1]) :
    dA.C W (some ⟨g, 0, none⟩) ([ac0 old, ac0 young, x] : List Ac).length [ac0 old, ac0 young, x] := by
  refine ⟨rfl, by show 3 ≤ _; decide, fun _ => ⟨_, rfl, fun i p hp => ?_⟩⟩
  rcases i with _ | _ | _ | i
  · obtain rfl : ac0 old = p := by simpa using hp
    refine ⟨_, rfl, dA_shut (a := ac0 old) (k0 := 0) (k1 := 0) (c0 := false) (c1 := false) hc0 h0 rfl rfl, fun j v hv => ?_⟩
    rcases j with _ | _ | _ | _ | _ | _ | _ | _ | j
    all_goals first | (obtain rfl := Option.some.inj hv; exact h.cell _) | (simp [av] at hv)
  · obtain rfl : ac0 young = p := by simpa using hp
    refine ⟨_, rfl, dA_shut (a := ac0 young) (k0 := 0) (k1 := 0) (c0 := false) (c1 := false) hc1 h1 rfl rfl, fun j v hv => ?_⟩
    rcases j with _ | _ | _ | _ | _ | _ | _ | _ | j
    all_goals first | (obtain rfl := Option.some.inj hv; exact h.cell _) | (simp [av] at hv)
  · obtain rfl : x = p := by simpa using hp
    refine ⟨_, rfl, dA_shut hb hC hk hc, fun j v hv => ?_⟩
    rcases j with _ | _ | _ | _ | _ | _ | _ | _ | j
    all_goals first | (obtain rfl := Option.some.inj hv; exact h.cell _) | (simp [av] at hv)
  · simp at hp
theorem good_armed {l : List (List Int)} (hx : (flat l).length ≤ 20000) {n : Int} (hn : n < 9223372036854775808) (b : Bool) : Good (armD n b (sp1 (flat l))) := good_arm (good_sp1 hx) b hn
theorem jk0 : Jk ⟨false, [], 0⟩ := ⟨⟨by decide, by decide⟩, by decide⟩
theorem frs_or {l : List (List Int)} (hl : (flat l).length ≤ 20000) : (allOk l ∧ frsE l 0 sp0 = 0) ∨ frsE l 0 sp0 = 1 := sp_frs (by rw [sp_left0]; decide) hl
theorem big_enough {a b : Nat} (h : a ≤ 20) (k : b ≤ 20) : a ≤ 1000000 ∧ b ≤ 1000000 := ⟨Nat.le_trans h (by decide), Nat.le_trans k (by decide)⟩
set_option maxHeartbeats 8000000 in
theorem law_Snaps.calls {w : World} {A0 A1 : Option Addr} {ca cb : Nat} {old young : List (List Int)} (h0 : (Kd.slice 5 (Kd.int .u8)).C w A0 old.length old) (hc0 : old.length ≤ ca) (h1 : (Kd.slice 5 (Kd.int .u8)).C w A1 young.length young) (hc1 : young.length ≤ cb) (x : Ac) (Rx : Option Addr) (cx : Nat) (x0 x1 : Int) (y0 y1 : Bool) (hbx : x.recs.length ≤ cx) (hCx : (Kd.slice 5 (Kd.int .u8)).C w Rx x.recs.length x.recs) (hkx : x.ks = [x0, x1]) (hcx : x.cs = [y0, y1]) (hn : x.n < 9223372036854775808) :
    Calls Try.prog 6 #[.slice A0 old.length ca, .slice A1 young.length cb, .agg #[.int .u8 x.kind, .slice Rx x.recs.length cx, .int .i64 x.n, .bool x.behind, .int .i64 x0, .int .i64 x1, .bool y0, .bool y1]] w fun e w' => e = .returned (.bool true) ∧ Below w.heap.size w w' := by
  have HKX := Aside0.mk (And.intro hkx hcx)
  have HNX := Aside0.mk hn
  have HCC := Aside0.mk (And.intro hc0 (And.intro hc1 hbx))
  go_enter Try.func6, Try.ntmps6
  go_wp2_with fail
  obtain ⟨pl, hpl⟩ : ∃ pl, pl = w.heap.size := ⟨_, rfl⟩
  rw [← hpl]
  obtain ⟨w0, hw0⟩ : ∃ w0, w0 = w.alloc (.cells #[.int .u8 x.kind, .slice Rx x.recs.length cx, .int .i64 x.n, .bool x.behind, .int .i64 x0, .int .i64 x1, .bool y0, .bool y1] 46) := ⟨_, rfl⟩
  have hb0 := below_alloc (Below.refl _ w) (.cells #[.int .u8 x.kind, .slice Rx x.recs.length cx, .int .i64 x.n, .bool x.behind, .int .i64 x0, .int .i64 x1, .bool y0, .bool y1] 46)
  have hp0 : Blk.At pl #[.int .u8 x.kind, .slice Rx x.recs.length cx, .int .i64 x.n, .bool x.behind, .int .i64 x0, .int .i64 x1, .bool y0, .bool y1] 46 w0 := by rw [hw0]; exact heap_new w _ hpl
  rw [← hw0] at hb0 ⊢
  have HP0 := Aside0.mk hp0
  have HW0 := Aside0.mk hb0
  have HC0 := Aside0.mk (Kd.C_below h0 hb0)
  have HC1 := Aside0.mk (Kd.C_below h1 hb0)
  have HCX := Aside0.mk (Kd.C_below hCx hb0)
  clear hp0 hb0 hw0 h0 h1 hCx hkx hcx hn hc0 hc1 hbx hpl
  have FIN := Aside0.mk (fun (W : World) (h : Below w0.heap.size w0 W) => HW0.out.trans (h.mono HW0.out.size))
  refine (disk_New.calls (by decide) (by decide) (fun k => w0.heap.size < k) (by omega) (fun _ hk => hk)).mono ?_
  rintro e w1 ⟨rfl, hA, hB⟩
  have hD := Dn.new (B := 0) hA hB
  obtain ⟨g, hg⟩ : ∃ g, g = w0.heap.size := ⟨_, rfl⟩
  have HGE := Aside0.mk hg
  rw [← hg] at hD ⊢
  have HD1 := Aside0.mk (show Dn (fun k => g ≤ k ∧ k < w1.heap.size) g sp0 w1 from hD.1)
  have HB1 := Aside0.mk hB
  have q0 : w1.cell? ⟨pl, 0, none⟩ = some (.int .u8 x.kind) := pw_cell_below hB (HP0.out.cell 0)
  have q1 : w1.cell? ⟨pl, 1, none⟩ = some (.slice Rx x.recs.length cx) := pw_cell_below hB (HP0.out.cell 1)
  have q2 : w1.cell? ⟨pl, 2, none⟩ = some (.int .i64 x.n) := pw_cell_below hB (HP0.out.cell 2)
  have q3 : w1.cell? ⟨pl, 3, none⟩ = some (.bool x.behind) := pw_cell_below hB (HP0.out.cell 3)
  have q4 : w1.cell? ⟨pl, 4, none⟩ = some (.int .i64 x0) := pw_cell_below hB (HP0.out.cell 4)
  have q5 : w1.cell? ⟨pl, 5, none⟩ = some (.int .i64 x1) := pw_cell_below hB (HP0.out.cell 5)
  have q6 : w1.cell? ⟨pl, 6, none⟩ = some (.bool y0) := pw_cell_below hB (HP0.out.cell 6)
  have q7 : w1.cell? ⟨pl, 7, none⟩ = some (.bool y1) := pw_cell_below hB (HP0.out.cell 7)
  clear hA hB hg hD
  go_wp2_with fail
  obtain ⟨w2, hw2⟩ : ∃ w2, w2 = w1.alloc (.cells #[.int .u8 0, .slice A0 old.length ca, .int .i64 0, .bool false, .int .i64 0, .int .i64 0, .bool false, .bool false, .int .u8 0, .slice A1 young.length cb, .int .i64 0, .bool false, .int .i64 0, .int .i64 0, .bool false, .bool false, .int .u8 x.kind, .slice Rx x.recs.length cx, .int .i64 x.n, .bool x.behind, .int .i64 x0, .int .i64 x1, .bool y0, .bool y1] 46) := ⟨_, rfl⟩
  have hbA := below_alloc (Below.refl w1.heap.size w1) (.cells #[.int .u8 0, .slice A0 old.length ca, .int .i64 0, .bool false, .int .i64 0, .int .i64 0, .bool false, .bool false, .int .u8 0, .slice A1 young.length cb, .int .i64 0, .bool false, .int .i64 0, .int .i64 0, .bool false, .bool false, .int .u8 x.kind, .slice Rx x.recs.length cx, .int .i64 x.n, .bool x.behind, .int .i64 x0, .int .i64 x1, .bool y0, .bool y1] 46)
  have hq := Blk.At.new w1 #[.int .u8 0, .slice A0 old.length ca, .int .i64 0, .bool false, .int .i64 0, .int .i64 0, .bool false, .bool false, .int .u8 0, .slice A1 young.length cb, .int .i64 0, .bool false, .int .i64 0, .int .i64 0, .bool false, .bool false, .int .u8 x.kind, .slice Rx x.recs.length cx, .int .i64 x.n, .bool x.behind, .int .i64 x0, .int .i64 x1, .bool y0, .bool y1] 46
  rw [← hw2] at hbA hq ⊢
  clear hw2 q0 q1 q2 q3 q4 q5 q6 q7
  have HB2 := Aside0.mk (HB1.out.trans (hbA.mono HB1.out.size))
  have HD2 := Aside0.mk (HD1.out.below hbA)
  have hC3 := C_three hq (Kd.C_below HC0.out HB2.out) HCC.out.1 (Kd.C_below HC1.out HB2.out) HCC.out.2.1 (Kd.C_below HCX.out HB2.out) HCC.out.2.2 HKX.out.1 HKX.out.2
  have HFA := Aside0.mk (law_far.calls hC3 (c := 3) (Nat.le_refl 3))
  clear hbA hq hC3 HB1 HD1
  refine HFA.out.mono ?_
  rintro e w3 ⟨bf, rfl, hB, hbf⟩
  have HD3 := Aside0.mk (HD2.out.below hB)
  have HB3 := Aside0.mk (HB2.out.trans (hB.mono HB2.out.size))
  have HBF := Aside0.mk hbf
  clear hB hbf HD2 HB2 HFA
  cases bf
  case true =>
    go_wp2_with fail
    refine (law_alive.calls _).mono ?_
    rintro e wz ⟨rfl, hB⟩
    have HBz := Aside0.mk (HB3.out.trans (hB.mono HB3.out.size))
    clear hB
    go_wp2_with fail
    go_ret
    exact ⟨rfl, FIN.out _ HBz.out⟩
  have HSM := Aside0.mk (small3 (HBF.out rfl))
  have hOP := jOpen.calls HD3.out good_sp0 rfl rfl false rfl
  rw [sp_open] at hOP
  have HOP := Aside0.mk hOP
  have HGB := Aside0.mk (show ∀ k, g ≤ k ∧ k < w1.heap.size → w0.heap.size ≤ k from fun k hk => by rw [← HGE.out]; exact hk.1)
  clear hOP HBF
  go_wp2_with fail
  refine HOP.out.mono ?_
  rintro e w4 ⟨jb, Ao, co, S4, rfl, hJ, hM, hR⟩
  have HS4 := Aside0.mk (show ∀ k, S4 k → w0.heap.size ≤ k from hM.above HGB.out HB3.out.size)
  have HB4 := Aside0.mk (hM.base HB3.out HGB.out HB3.out.size)
  have HJ4 := Aside0.mk hJ
  have hAD := jAdd.calls (c := ca) hJ good_sp0 jk0 (Kd.C_below HC0.out HB4.out) (by have := HSM.out.1; omega)
  have HAD := Aside0.mk hAD
  clear hJ hM hR hAD HOP HD3 HB3
  go_wp2_with fail
  rcases frs_or HSM.out.2.2.1 with ⟨hok, he⟩ | he
  case inr =>
    have hAD := HAD.out
    rw [show frsE old (((J.mk false [] 0).group.length : Nat) : Int) sp0 = 1 from he, sp_add1 he] at hAD
    have HAD2 := Aside0.mk hAD
    clear hAD HAD he
    refine HAD2.out.mono ?_
    rintro e w5 ⟨rfl, S5, hJ, hM⟩
    have HB5 := Aside0.mk (hM.base HB4.out HS4.out HB4.out.size)
    have HGR := Aside0.mk (jGroup.calls hJ)
    clear hJ hM HAD2
    go_wp2_with fail
    refine HGR.out.mono ?_
    rintro e w6 ⟨rfl, rfl⟩
    go_wp2_with fail
    refine (law_alive.calls _).mono ?_
    rintro e wz ⟨rfl, hB⟩
    have HBz := Aside0.mk (HB5.out.trans (hB.mono HB5.out.size))
    clear hB
    go_wp2_with fail
    go_ret
    exact ⟨rfl, FIN.out _ HBz.out⟩
  have hAD := HAD.out
  rw [show frsE old (((J.mk false [] 0).group.length : Nat) : Int) sp0 = 0 from he, sp_add he] at hAD
  have HAD2 := Aside0.mk hAD
  have HOK := Aside0.mk hok
  clear hAD HAD he hok
  refine HAD2.out.mono ?_
  rintro e w5 ⟨rfl, S5, hJ, hM⟩
  have HB5 := Aside0.mk (hM.base HB4.out HS4.out HB4.out.size)
  have HS5 := Aside0.mk (show ∀ k, S5 k → w0.heap.size ≤ k from hM.above HS4.out HB4.out.size)
  have hCM := jCommit.calls hJ good_sp0
  rw [(sp_com HSM.out.2.2.1).1, (sp_com HSM.out.2.2.1).2.1, (sp_com HSM.out.2.2.1).2.2] at hCM
  have HCM := Aside0.mk hCM
  clear hJ hM hCM HAD2 HB4 HS4 HJ4
  go_wp2_with fail
  refine HCM.out.mono ?_
  rintro e w6 ⟨rfl, S6, hJ, hM⟩
  have HB6 := Aside0.mk (hM.base HB5.out HS5.out HB5.out.size)
  have HS6 := Aside0.mk (show ∀ k, S6 k → w0.heap.size ≤ k from hM.above HS5.out HB5.out.size)
  have HAR := Aside0.mk (hJ.act (fun ok hA => disk_Arm.all hA (good_sp1 HSM.out.2.2.1) x.n x.behind))
  have q2 : w6.cell? ⟨pl, 2, none⟩ = some (.int .i64 x.n) := pw_cell_below HB6.out (HP0.out.cell 2)
  have q3 : w6.cell? ⟨pl, 3, none⟩ = some (.bool x.behind) := pw_cell_below HB6.out (HP0.out.cell 3)
  clear hJ hM HCM HB5 HS5
  go_wp2_with fail
  refine HAR.out.mono ?_
  rintro e w7 ⟨rfl, S7, hJ, hM⟩
  have HB7 := Aside0.mk (hM.base HB6.out HS6.out HB6.out.size)
  have HS7 := Aside0.mk (show ∀ k, S7 k → w0.heap.size ≤ k from hM.above HS6.out HB6.out.size)
  have HG7 := Aside0.mk (good_armed HSM.out.2.2.1 HNX.out x.behind)
  have HSN := Aside0.mk (jSnapshot.calls (c := cb) hJ HG7.out (Kd.C_below HC1.out HB7.out) (by have := HSM.out.2.1; omega))
  have hALL := sp_all (n := x.n) (b := x.behind) HSM.out.2.2.1 HSM.out.2.2.2 HOK.out x0 x1 y0 y1
  have HG8 := Aside0.mk (good_snap (l := young) (j := ⟨false, [], 0⟩) HG7.out)
  obtain ⟨rr, hrr⟩ : ∃ rr, rr = snap young (armD x.n x.behind (sp1 (flat old))) ⟨false, [], 0⟩ := ⟨_, rfl⟩
  have hsn := HSN.out
  have hg8 := HG8.out
  rw [← hrr] at hsn hg8 hALL
  obtain ⟨E, d8, j8⟩ := rr
  dsimp only at hsn hg8 hALL
  have HSN2 := Aside0.mk hsn
  have HG9 := Aside0.mk hg8
  have HALL := Aside0.mk hALL
  clear hJ hM HAR HB6 HS6 hsn hg8 hALL hrr HSN HG8 q2 q3
  go_wp2_with fail
  refine HSN2.out.mono ?_
  rintro e w8 ⟨rfl, S8, hJ, hM⟩
  have HB8 := Aside0.mk (hM.base HB7.out HS7.out HB7.out.size)
  have HS8 := Aside0.mk (show ∀ k, S8 k → w0.heap.size ≤ k from hM.above HS7.out HB7.out.size)
  have HAR := Aside0.mk (dn_Arm hJ.dn HG9.out (-1) false)
  clear hJ hM HB7 HS7 HSN2 HG7
  go_wp2_with fail
  refine HAR.out.mono ?_
  rintro e w9 ⟨rfl, S9, hD, hM⟩
  have HB9 := Aside0.mk (hM.base HB8.out HS8.out HB8.out.size)
  have HS9 := Aside0.mk (show ∀ k, S9 k → w0.heap.size ≤ k from hM.above HS8.out HB8.out.size)
  have HG10 := Aside0.mk (good_arm HG9.out (n := -1) false (by decide))
  have HFL := Aside0.mk (dn_Fail hD HG10.out)
  clear hD hM HB8 HS8 HAR
  go_wp2_with fail
  refine HFL.out.mono ?_
  rintro e w10 ⟨rfl, S10, hD, hM⟩
  have HB10 := Aside0.mk (hM.base HB9.out HS9.out HB9.out.size)
  have HS10 := Aside0.mk (show ∀ k, S10 k → w0.heap.size ≤ k from hM.above HS9.out HB9.out.size)
  have HG11 := Aside0.mk (good_offD HG10.out)
  have hST := dn_Start hD HG11.out x0 x1 y0 y1
  rw [sp_startE] at hST
  have HST := Aside0.mk hST
  have q4 : w10.cell? ⟨pl, 4, none⟩ = some (.int .i64 x0) := pw_cell_below HB10.out (HP0.out.cell 4)
  have q5 : w10.cell? ⟨pl, 5, none⟩ = some (.int .i64 x1) := pw_cell_below HB10.out (HP0.out.cell 5)
  have q6 : w10.cell? ⟨pl, 6, none⟩ = some (.bool y0) := pw_cell_below HB10.out (HP0.out.cell 6)
  have q7 : w10.cell? ⟨pl, 7, none⟩ = some (.bool y1) := pw_cell_below HB10.out (HP0.out.cell 7)
  clear hD hM HB9 HS9 HFL hST
  go_wp2_with fail
  refine HST.out.mono ?_
  rintro e w11 ⟨rfl, S11, hD, hM⟩
  have HB11 := Aside0.mk (hM.base HB10.out HS10.out HB10.out.size)
  have HS11 := Aside0.mk (show ∀ k, S11 k → w0.heap.size ≤ k from hM.above HS10.out HB10.out.size)
  have HG12 := Aside0.mk (show Good (spE x0 x1 y0 y1 d8) from good_start HG11.out x0 x1 y0 y1)
  obtain ⟨i, ll, hroot, hscan, hcase⟩ := HALL.out
  have hOP := jOpen.calls (d := spE x0 x1 y0 y1 d8) hD HG12.out (sp_calm x0 x1 y0 y1 d8).on (sp_calm x0 x1 y0 y1 d8).no i hroot
  rw [hscan] at hOP
  have HOP := Aside0.mk hOP
  have HCASE := Aside0.mk hcase
  clear hD hM HB10 HS10 HST hOP hroot hscan hcase HALL q4 q5 q6 q7
  go_wp2_with fail
  refine HOP.out.mono ?_
  rintro e w12 ⟨jb2, A2, c2, S12, rfl, hJ, hM, hR⟩
  have HB12 := Aside0.mk (hM.base HB11.out HS11.out HB11.out.size)
  have HR := Aside0.mk (Kd.R_reads' hR).2.2
  have HCo := Aside0.mk (Kd.C_below HC0.out HB12.out)
  have HCy := Aside0.mk (Kd.C_below HC1.out HB12.out)
  clear hJ hM hR HOP HB11 HS11
  have HLO := Aside0.mk (show old.length ≤ 1000000 ∧ young.length ≤ 1000000 from big_enough HSM.out.1 HSM.out.2.1)
  rcases HCASE.out with ⟨rfl, rfl⟩ | ⟨rfl, rfl⟩ | ⟨rfl, hl⟩
  · go_wp2_with fail
    refine (jsame.calls _ HR.out HCy.out HLO.out.2).mono ?_
    rintro e wy ⟨rfl, hdw⟩
    rw [sameN_refl]
    have HBy := Aside0.mk (HB12.out.trans (hdw.below.mono HB12.out.size))
    clear hdw
    go_wp2_with fail
    refine (law_alive.calls _).mono ?_
    rintro e wz ⟨rfl, hB⟩
    have HBz := Aside0.mk (HBy.out.trans (hB.mono HBy.out.size))
    clear hB
    go_wp2_with fail
    go_ret
    exact ⟨rfl, FIN.out _ HBz.out⟩
  · go_wp2_with fail
    refine (jsame.calls _ HR.out HCo.out HLO.out.1).mono ?_
    rintro e wy ⟨rfl, hdw⟩
    rw [sameN_refl]
    have HBy := Aside0.mk (HB12.out.trans (hdw.below.mono HB12.out.size))
    clear hdw
    go_wp2_with fail
    refine (law_alive.calls _).mono ?_
    rintro e wz ⟨rfl, hB⟩
    have HBz := Aside0.mk (HBy.out.trans (hB.mono HBy.out.size))
    clear hB
    go_wp2_with fail
    go_ret
    exact ⟨rfl, FIN.out _ HBz.out⟩
  · have HLL := Aside0.mk (show ll.length ≤ 1000000 from by rcases hl with rfl | rfl; exact HLO.out.1; exact HLO.out.2)
    have hs := jsame.calls (c0 := c2) (c1 := ca) _ HR.out HCo.out HLL.out
    have hyes : sameN ll old = true ∨ (sameN ll old = false ∧ sameN ll young = true) := by
      rcases hl with rfl | rfl
      · exact .inl (sameN_refl _)
      · cases hx : sameN ll old
        · exact .inr ⟨rfl, sameN_refl _⟩
        · exact .inl rfl
    rcases hyes with hy | ⟨hy, hz⟩
    · rw [hy] at hs
      have HSA := Aside0.mk hs
      clear hs hl hy
      go_wp2_with fail
      refine HSA.out.mono ?_
      rintro e wy ⟨rfl, hdw⟩
      have HBy := Aside0.mk (HB12.out.trans (hdw.below.mono HB12.out.size))
      clear hdw
      go_wp2_with fail
      refine (law_alive.calls _).mono ?_
      rintro e wz ⟨rfl, hB⟩
      have HBz := Aside0.mk (HBy.out.trans (hB.mono HBy.out.size))
      clear hB
      go_wp2_with fail
      go_ret
      exact ⟨rfl, FIN.out _ HBz.out⟩
    · rw [hy] at hs
      have HSA := Aside0.mk hs
      clear hs hl hy
      have HZ := Aside0.mk hz
      clear hz
      go_wp2_with fail
      refine HSA.out.mono ?_
      rintro e wy ⟨rfl, hdw⟩
      have hs2 := jsame.calls (c0 := c2) (c1 := cb) wy (Kd.C_below HR.out hdw.below) (Kd.C_below HCy.out hdw.below) HLL.out
      rw [HZ.out] at hs2
      have HSB := Aside0.mk hs2
      have HBx := Aside0.mk (HB12.out.trans (hdw.below.mono HB12.out.size))
      clear hdw hs2 HSA
      go_wp2_with fail
      refine HSB.out.mono ?_
      rintro e wv ⟨rfl, hdw⟩
      have HBy := Aside0.mk (HBx.out.trans (hdw.below.mono HBx.out.size))
      clear hdw
      go_wp2_with fail
      refine (law_alive.calls _).mono ?_
      rintro e wz ⟨rfl, hB⟩
      have HBz := Aside0.mk (HBy.out.trans (hB.mono HBy.out.size))
      clear hB
      go_wp2_with fail
      go_ret
      exact ⟨rfl, FIN.out _ HBz.out⟩
end Go.Proofs.Ytdlfabbhdelinaa.Q
