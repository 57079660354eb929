/- A disk's law 'Sure', walked. No condition but those typed. -/
import Derived.Test.YtjiboeokockdcaaWalk0
import Derived.Test.YtjiboeokockdcaaDisk09
import Derived.Test.YtjiboeokockdcaaDk6
namespace Go.Proofs.Ytjiboeokockdcaa.Q
open Go.RowKit Go.Proofs.YtjiboeokockdcaaW.PrintWords Go.Proofs.YtjiboeokockdcaaW.PrintLast Go.Proofs.YtjiboeokockdcaaW.PrintMore
open Go.Proofs.Ytjiboeokockdcaa.Dk
attribute [local go_sem] max2_int min2_int max_two min_two max_three min_three max_four min_four   -- for this text's walks alone
set_option linter.unusedVariables false
set_option linter.unusedSimpArgs false
/-- Which bound is a file's. -/
def lv (l0 l1 : Int) (i : Bool) : Int := match i with | false => l0 | true => l1
/-- What stands in a law's round: the disk has the power; the least that was sure, and the root, are known. -/
structure Keeps (d : D) (l0 l1 r : Int) : Prop where
  good : Good d
  off : d.off = false
  fuse : d.fuse = -1
  root : d.root = r
  lo : ∀ i, 0 ≤ lv l0 l1 i ∧ ((d.fl i).cut = -1 → lv l0 l1 i ≤ ((d.fl i).sure.length : Int)) ∧ ((d.fl i).cut ≠ -1 → lv l0 l1 i ≤ (d.fl i).cut)
def SureC (a : Ac) (d D2 : D) (E : Int) : Prop :=
  (fe d a.file ≠ 0 → E = fe d a.file ∧ D2 = d) ∧ (fe d a.file = 0 → (E ≠ 0 ∧ D2 = d) ∨ (E = 0 ∧ ((Int.tmod a.kind 8 = 1 ∧ D2 = syn (bi a.file) d) ∨ (Int.tmod a.kind 8 = 2 ∧ troom a.n (d.fl (bi a.file)) = 0 ∧ D2 = tru (bi a.file) a.n d) ∨ (Int.tmod a.kind 8 = 3 ∧ D2 = swi a.file d) ∨
    (Int.tmod a.kind 8 ≠ 1 ∧ Int.tmod a.kind 8 ≠ 2 ∧ Int.tmod a.kind 8 ≠ 3 ∧ D2 = app (bi a.file) a.b d))))
theorem sure_does {a : Ac} {d : D} (hk : Mild (Int.tmod a.kind 8)) (hf : d.fuse = -1) : SureC a d (doesD a d) (doesE a d) := by
  refine does_mild (C := fun D2 E => SureC a d D2 E) hk hf ?_ ?_ ?_ ?_ ?_ ?_ ?_
  · exact fun h => ⟨fun _ => ⟨rfl, rfl⟩, fun h0 => absurd h0 h⟩
  · exact fun h k => ⟨fun h0 => absurd h h0, fun _ => .inr ⟨rfl, .inl ⟨k, rfl⟩⟩⟩
  · exact fun h k m => ⟨fun h0 => absurd h h0, fun _ => .inr ⟨rfl, .inr (.inl ⟨k, m, rfl⟩)⟩⟩
  · exact fun h k m => ⟨fun h0 => absurd h h0, fun _ => .inl ⟨m, rfl⟩⟩
  · exact fun h k => ⟨fun h0 => absurd h h0, fun _ => .inr ⟨rfl, .inr (.inr (.inl ⟨k, rfl⟩))⟩⟩
  · exact fun h k1 k2 k3 m => ⟨fun h0 => absurd h h0, fun _ => .inr ⟨rfl, .inr (.inr (.inr ⟨k1, k2, k3, rfl⟩))⟩⟩
  · exact fun h k1 k2 k3 m => ⟨fun h0 => absurd h h0, fun _ => .inl ⟨m, rfl⟩⟩
theorem fe_arg {d : D} {f : Int} (h : f ≠ 0 ∧ f ≠ 1) : fe d f = 1 := if_pos h
theorem fe_on {d : D} (ho : d.off = false) (i : Bool) : fe d (iv i) = 0 := by
  rw [fe_iv]
  unfold rdE
  rw [ho]
  rfl
theorem fl_put_same (d : D) (i : Bool) (x : Fl) : (d.put i x).fl i = x := by cases i <;> rfl
theorem fl_put_other (d : D) (i j : Bool) (x : Fl) (h : j ≠ i) : (d.put i x).fl j = d.fl j := by cases i <;> cases j <;> first | rfl | exact absurd rfl h
theorem keeps_new : Keeps (newD 1048576) 0 0 0 := ⟨good_new (by decide) (by decide), rfl, rfl, rfl, fun i => by cases i <;> exact ⟨Int.le_refl _, fun _ => Int.le_refl _, fun h => absurd rfl h⟩⟩
/-- One bound in a file's place. -/
def l0' (i : Bool) (n l0 : Int) : Int := match i with | false => n | true => l0
def l1' (i : Bool) (n l1 : Int) : Int := match i with | false => l1 | true => n
theorem lv_same (i : Bool) (n l0 l1 : Int) : lv (l0' i n l0) (l1' i n l1) i = n := by cases i <;> rfl
theorem lv_other (i j : Bool) (n l0 l1 : Int) (h : j ≠ i) : lv (l0' i n l0) (l1' i n l1) j = lv l0 l1 j := by cases i <;> cases j <;> first | rfl | exact absurd rfl h
theorem root_put (d : D) (i : Bool) (x : Fl) : (d.put i x).root = d.root := by cases i <;> rfl
theorem off_put (d : D) (i : Bool) (x : Fl) : (d.put i x).off = d.off := by cases i <;> rfl
theorem fuse_put (d : D) (i : Bool) (x : Fl) : (d.put i x).fuse = d.fuse := by cases i <;> rfl
theorem keeps_put {d : D} {l0 l1 r : Int} (h : Keeps d l0 l1 r) (i : Bool) {x : Fl} {n : Int} (hx : FlOk x) (hn : 0 ≤ n ∧ (x.cut = -1 → n ≤ (x.sure.length : Int)) ∧ (x.cut ≠ -1 → n ≤ x.cut)) : Keeps (d.put i x) (l0' i n l0) (l1' i n l1) r := by
  refine ⟨good_put h.good i hx, (off_put _ _ _).trans h.off, (fuse_put _ _ _).trans h.fuse, (root_put _ _ _).trans h.root, fun j => ?_⟩
  by_cases e : j = i
  · subst e
    rw [fl_put_same, lv_same]
    exact hn
  · rw [fl_put_other _ _ _ _ e, lv_other _ _ _ _ _ e]
    exact h.lo j
theorem keeps_syn {d : D} {l0 l1 r : Int} (h : Keeps d l0 l1 r) (i : Bool) : Keeps (syn i d) (l0' i ((d.fl i).now.length : Int) l0) (l1' i ((d.fl i).now.length : Int) l1) r :=
  keeps_put h i (flok_syn (flok h.good i)) ⟨Int.natCast_nonneg _, fun _ => Int.le_refl _, fun e => absurd rfl e⟩
theorem keeps_app {d : D} {l0 l1 r : Int} (h : Keeps d l0 l1 r) (i : Bool) {b : List Int} (hg : Good (app i b d)) : Keeps (app i b d) l0 l1 r := by
  refine ⟨hg, (off_app _ _ _).trans h.off, (fuse_app _ _ _).trans h.fuse, (root_put _ _ _).trans h.root, fun j => ?_⟩
  by_cases e : j = i
  · subst e
    unfold app
    rw [fl_put_same]
    exact h.lo j
  · unfold app
    rw [fl_put_other _ _ _ _ e]
    exact h.lo j
theorem keeps_swi {d : D} {l0 l1 r : Int} (h : Keeps d l0 l1 r) (f : Int) : Keeps (swi f d) l0 l1 f :=
  ⟨good_fl h.good rfl rfl rfl h.good.fuse, h.off, h.fuse, rfl, fun j => by have := h.lo j; cases j <;> exact this⟩
theorem mn_le (x y : Int) : mn x y ≤ x ∧ mn x y ≤ y ∧ (mn x y = x ∨ mn x y = y) := by
  unfold mn
  split <;> omega
theorem keeps_tru {d : D} {l0 l1 r : Int} (h : Keeps d l0 l1 r) (i : Bool) {n : Int} (hm : troom n (d.fl i) = 0) : Keeps (tru i n d) (l0' i (mn (lv l0 l1 i) n) l0) (l1' i (mn (lv l0 l1 i) n) l1) r := by
  have hb : ¬ (n < 0 ∨ ((d.fl i).now.length : Int) < n) := fun hh => by
    rw [show troom n (d.fl i) = 1 from if_pos hh] at hm
    cases hm
  have hl := h.lo i
  have hm := mn_le (lv l0 l1 i) n
  have hc := (flok h.good i).cut
  refine keeps_put h i (flok_tru (flok h.good i) (by omega) (by omega)) ⟨by omega, fun e => ?_, fun e => ?_⟩
  · show mn (lv l0 l1 i) n ≤ ((d.fl i).sure.length : Int)
    have e : (if n < ((d.fl i).sure.length : Int) ∧ ((d.fl i).cut = -1 ∨ n < (d.fl i).cut) then n else (d.fl i).cut) = -1 := e
    split at e
    · omega
    · have := hl.2.1 e
      omega
  · show mn (lv l0 l1 i) n ≤ (if n < ((d.fl i).sure.length : Int) ∧ ((d.fl i).cut = -1 ∨ n < (d.fl i).cut) then n else (d.fl i).cut)
    have e : ¬ (if n < ((d.fl i).sure.length : Int) ∧ ((d.fl i).cut = -1 ∨ n < (d.fl i).cut) then n else (d.fl i).cut) = -1 := e
    split at e
    · rename_i hh
      rw [if_pos hh]
      exact hm.2.1
    · rename_i hh
      rw [if_neg hh]
      have := hl.2.2 e
      omega
/-- Behind a loss. -/
theorem lost_is {f : Fl} (h : FlOk f) {n : Int} (hn : 0 ≤ n ∧ (f.cut = -1 → n ≤ (f.sure.length : Int)) ∧ (f.cut ≠ -1 → n ≤ f.cut)) (keep : Int) (cut : Bool) :
    n ≤ ((lost keep cut f).now.length : Int) ∧ n ≤ (f.sure.length : Int) ∧ (lost keep cut f).now.take n.toNat = f.sure.take n.toNat ∧ ((lost keep cut f).now = f.sure ∨ (lost keep cut f).now <+: f.now) ∧ (lost keep cut f).now.length ≤ 1048576 := by
  have hlen := (flok_lost h keep cut).now
  have hT : ∀ b : List Int, b <+: f.now → lostT keep b f <+: f.now := fun b hb => by
    obtain ⟨t, ht⟩ := hb
    unfold lostT
    rw [← ht, List.drop_append_of_le_length (Nat.le_refl _), List.drop_length, List.nil_append, List.prefix_append_right_inj]
    exact List.take_prefix _ _
  by_cases hc : f.cut = -1
  · rw [lost_none hc] at hlen ⊢
    have h1 := hn.2.1 hc
    refine ⟨?_, h1, ?_, .inr (hT _ (h.none hc)), hlen⟩
    · show n ≤ ((lostT keep f.sure f).length : Int)
      unfold lostT
      rw [List.length_append]
      omega
    · show (lostT keep f.sure f).take n.toNat = _
      unfold lostT
      rw [List.take_append_of_le_length (by omega)]
  · have h2 := hn.2.2 hc
    obtain ⟨c0, c1, c2⟩ := h.some hc
    cases cut
    · rw [lost_keep hc] at hlen ⊢
      exact ⟨by show n ≤ (f.sure.length : Int); omega, by omega, rfl, .inl rfl, hlen⟩
    · rw [lost_cut hc] at hlen ⊢
      have hk : (f.sure.take f.cut.toNat).length = f.cut.toNat := by rw [List.length_take]; omega
      refine ⟨?_, by omega, ?_, .inr (hT _ c2), hlen⟩
      · show n ≤ ((lostT keep (f.sure.take f.cut.toNat) f).length : Int)
        unfold lostT
        rw [List.length_append, hk]
        omega
      · show (lostT keep (f.sure.take f.cut.toNat) f).take n.toNat = _
        unfold lostT
        rw [List.take_append_of_le_length (by rw [hk]; omega), List.take_take, Nat.min_eq_left (by omega)]
/-- Bytes of the call's own, in no block that is bad. -/
structure Rw (bad : Nat → Prop) (v : Value) (xs : List Int) (w : World) : Prop where
  own : w.ownsRow 0 5 1 v xs.length (nums .u8 xs)
  far : ∀ k, v.ownBlock = some k → ¬ bad k
namespace Rw
variable {bad bad' : Nat → Prop} {v : Value} {xs : List Int} {w w1 : World}
theorem nil (bad : Nat → Prop) (w : World) : Rw bad (.slice none 0 0) [] w := ⟨own_nil _ _ _ _, fun k hk => by simp [Value.ownBlock] at hk⟩
theorem other (h : Rw bad v xs w) {row : Option Nat} (hg : w.grownBy w1 row) (hr : ∀ k, row = some k → bad k) : Rw bad v xs w1 :=
  ⟨own_other h.own hg (Classical.or_iff_not_imp_left.2 (fun hn e => by
    cases hv : v.ownBlock with
    | none => exact hn hv
    | some k => exact h.far k hv (hr k (e ▸ hv)))), h.far⟩
theorem tn {g : Nat} (h : Rw bad v xs w) (T : Tn g w w1) (hb : bad g) : Rw bad v xs w1 := h.other T.grown (fun k e => by cases e; exact hb)
theorem below (h : Rw bad v xs w) (hb : Below w.heap.size w w1) : Rw bad v xs w1 := h.other (grown_of_below hb none) (fun k e => by cases e)
theorem set (h : Rw bad v xs w) {q : Nat} (hq : bad q) (i : Nat) (u : Value) : Rw bad v xs (w.setCell ⟨q, i, none⟩ u) :=
  ⟨own_setCell h.own (fun e => h.far q e.symm hq) u, h.far⟩
theorem more (h : Rw bad v xs w) (hb : ∀ k, bad' k → bad k ∨ w.heap.size ≤ k) : Rw bad' v xs w :=
  ⟨h.own, fun k hk hbk => (hb k hbk).elim (h.far k hk) (fun hs => by have := own_lt h.own k hk; omega)⟩
theorem of_R {base : Nat} (h : Rb base w v xs) (hb : ∀ k, base ≤ k → ¬ bad k) : Rw bad v xs w := ⟨own_less (Kd.own_of_R h) (Nat.zero_le _), fun k hk => hb k (Kd.R_base h k hk)⟩
theorem slice (h : Rw bad v xs w) : ∃ A c, v = .slice A xs.length c := own_slice h.own
theorem cap {A : Option Addr} {n c : Nat} (h : Rw bad (.slice A n c) xs w) : n = xs.length ∧ xs.length ≤ c := by
  have hr : Kd.R (Kd.int .u8) 5 w 0 (fun _ => True) (.slice A n c) xs := Kd.R_of_own h.own (fun _ _ => trivial)
  have := Kd.R_reads' hr
  exact ⟨this.1, this.1 ▸ this.2.1⟩
theorem str (h : Rw bad v xs w) : (convert 23 9 v).run Try.prog w = .ok (.string (strOfNums xs)) w :=
  own_string (P := Try.prog) Try.underlying23 Try.underlying5 Try.underlying9 h.own
theorem take {A : Option Addr} {n c : Nat} (h : Rw bad (.slice A n c) xs w) {m : Nat} (hm : m ≤ xs.length) : Rw bad (.slice A m c) (xs.take m) w := by
  obtain ⟨rfl, _⟩ := h.cap
  have hl : (xs.take m).length = m := by rw [List.length_take]; omega
  have := own_take h.own hm
  rw [Nat.mul_one] at this
  refine ⟨?_, fun k hk => h.far k ?_⟩
  · rw [hl]
    have e : nums .u8 (xs.take m) = (nums .u8 xs).take m := by simp [nums, List.map_take]
    rw [e]
    exact this
  · cases A with
    | none => simp [Value.ownBlock] at hk
    | some a => simpa [Value.ownBlock] using hk
end Rw
/-- Where the law's own variables lie. -/
structure Geo (g : Nat) (ok bad : Nat → Prop) (bs bl : Nat) (w0 : World) : Prop where
  g0 : w0.heap.size = g
  bg : bad g
  bs_ : bad bs
  bl_ : bad bl
  only : ∀ k, bad k → k ≤ bl
  os : ¬ ok bs
  ol : ¬ ok bl
  gs : g < bs
  sl : bs < bl
structure Inv (g : Nat) (ok bad : Nat → Prop) (bs bl : Nat) (w0 : World) (d : D) (l0 l1 rt : Int) (s0 s1 : Value) (W : World) : Prop where
  keeps : Keeps d l0 l1 rt
  at_ : At g ok d W
  below : Below g w0 W
  cs : Blk.At bs #[s0, s1] 41 W
  cl : Blk.At bl #[.int .i64 l0, .int .i64 l1] 33 W
  r0 : Rw bad s0 d.a.sure W
  r1 : Rw bad s1 d.b.sure W
namespace Inv
variable {g : Nat} {ok bad : Nat → Prop} {bs bl : Nat} {w0 : World} {d d' : D} {l0 l1 rt rt' : Int} {s0 s1 : Value} {W W1 : World}
theorem step (h : Inv g ok bad bs bl w0 d l0 l1 rt s0 s1 W) (G : Geo g ok bad bs bl w0) (T : Tn g W W1) (hk : Keeps d' l0 l1 rt') (hA : At g ok d' W1) (ha : d'.a.sure = d.a.sure) (hb : d'.b.sure = d.b.sure) : Inv g ok bad bs bl w0 d' l0 l1 rt' s0 s1 W1 :=
  ⟨hk, hA, T.base h.below (Nat.le_refl _) (Nat.le_of_lt h.at_.lt), blk_tn h.cs T (by have := G.gs; omega), blk_tn h.cl T (by have := G.gs; have := G.sl; omega), by rw [ha]; exact h.r0.tn T G.bg, by rw [hb]; exact h.r1.tn T G.bg⟩
theorem then_ (h : Inv g ok bad bs bl w0 d l0 l1 rt s0 s1 W) (G : Geo g ok bad bs bl w0) (hb : Below W.heap.size W W1) : Inv g ok bad bs bl w0 d l0 l1 rt s0 s1 W1 :=
  h.step G (Tn.of_below hb) h.keeps (h.at_.below hb) rfl rfl
end Inv
theorem sure_out {a : Ac} {d D2 : D} {E : Int} (h : SureC a d D2 E) (hf : a.file ≠ 0 ∧ a.file ≠ 1) : E = 1 ∧ D2 = d := by
  have e := fe_arg (d := d) hf
  have := h.1 (by rw [e]; decide)
  rw [e] at this
  exact this
theorem sure_in {a : Ac} {d D2 : D} {E : Int} (h : SureC a d D2 E) (ho : d.off = false) {i : Bool} (hf : a.file = iv i) : (E ≠ 0 ∧ D2 = d) ∨ (E = 0 ∧ ((Int.tmod a.kind 8 = 1 ∧ D2 = syn i d) ∨ (Int.tmod a.kind 8 = 2 ∧ troom a.n (d.fl i) = 0 ∧ D2 = tru i a.n d) ∨ (Int.tmod a.kind 8 = 3 ∧ D2 = swi (iv i) d) ∨
    (Int.tmod a.kind 8 ≠ 1 ∧ Int.tmod a.kind 8 ≠ 2 ∧ Int.tmod a.kind 8 ≠ 3 ∧ D2 = app i a.b d))) := by
  have := h.2 (by rw [hf]; exact fe_on ho i)
  rw [hf, bi_iv] at this
  exact this
theorem file_two {f : Int} (h : ¬ (f < 0) ∧ ¬ (1 < f)) : ∃ i, f = iv i := by
  by_cases e : f = 0
  · exact ⟨false, e⟩
  · exact ⟨true, show f = 1 by omega⟩
theorem sure_app (i : Bool) (b : List Int) (d : D) : (app i b d).a.sure = d.a.sure ∧ (app i b d).b.sure = d.b.sure := by cases i <;> exact ⟨rfl, rfl⟩
theorem sure_tru (i : Bool) (n : Int) (d : D) : (tru i n d).a.sure = d.a.sure ∧ (tru i n d).b.sure = d.b.sure := by cases i <;> exact ⟨rfl, rfl⟩
/-- The law's own variables, apart from what the disk has. -/
structure Ph (g : Nat) (ok bad : Nat → Prop) (bs bl : Nat) (w0 : World) (d : D) (l0 l1 : Int) (s0 s1 : Value) (x0 x1 : List Int) (W : World) : Prop where
  at_ : At g ok d W
  below : Below g w0 W
  cs : Blk.At bs #[s0, s1] 41 W
  cl : Blk.At bl #[.int .i64 l0, .int .i64 l1] 33 W
  r0 : Rw bad s0 x0 W
  r1 : Rw bad s1 x1 W
namespace Ph
variable {g : Nat} {ok bad : Nat → Prop} {bs bl : Nat} {w0 : World} {d d' : D} {l0 l1 rt : Int} {s0 s1 : Value} {x0 x1 : List Int} {W W1 : World}
theorem of (h : Inv g ok bad bs bl w0 d l0 l1 rt s0 s1 W) (G : Geo g ok bad bs bl w0) (T : Tn g W W1) (hA : At g ok d' W1) : Ph g ok bad bs bl w0 d' l0 l1 s0 s1 d.a.sure d.b.sure W1 :=
  ⟨hA, T.base h.below (Nat.le_refl _) (Nat.le_of_lt h.at_.lt), blk_tn h.cs T (by have := G.gs; omega), blk_tn h.cl T (by have := G.gs; have := G.sl; omega), h.r0.tn T G.bg, h.r1.tn T G.bg⟩
theorem then_ (h : Ph g ok bad bs bl w0 d l0 l1 s0 s1 x0 x1 W) (hb : Below W.heap.size W W1) : Ph g ok bad bs bl w0 d l0 l1 s0 s1 x0 x1 W1 :=
  ⟨h.at_.below hb, h.below.trans (hb.mono (Nat.le_of_lt h.at_.lt)), h.cs.below hb h.cs.lt, h.cl.below hb h.cl.lt, h.r0.below hb, h.r1.below hb⟩
theorem setS0 (h : Ph g ok bad bs bl w0 d l0 l1 s0 s1 x0 x1 W) (G : Geo g ok bad bs bl w0) {v : Value} {x : List Int} (hv : Rw bad v x W) : Ph g ok bad bs bl w0 d l0 l1 v s1 x x1 (W.setCell ⟨bs, 0, none⟩ v) :=
  ⟨h.at_.far (by have := G.gs; show bs ≠ g; omega) G.os _, h.below.setCell (Nat.le_of_lt G.gs) _, h.cs.set 0 v, h.cl.set_other (by have := G.sl; omega) _ _, hv.set G.bs_ _ _, h.r1.set G.bs_ _ _⟩
theorem setS1 (h : Ph g ok bad bs bl w0 d l0 l1 s0 s1 x0 x1 W) (G : Geo g ok bad bs bl w0) {v : Value} {x : List Int} (hv : Rw bad v x W) : Ph g ok bad bs bl w0 d l0 l1 s0 v x0 x (W.setCell ⟨bs, 1, none⟩ v) :=
  ⟨h.at_.far (by have := G.gs; show bs ≠ g; omega) G.os _, h.below.setCell (Nat.le_of_lt G.gs) _, h.cs.set 1 v, h.cl.set_other (by have := G.sl; omega) _ _, h.r0.set G.bs_ _ _, hv.set G.bs_ _ _⟩
theorem setL0 (h : Ph g ok bad bs bl w0 d l0 l1 s0 s1 x0 x1 W) (G : Geo g ok bad bs bl w0) (n : Int) : Ph g ok bad bs bl w0 d n l1 s0 s1 x0 x1 (W.setCell ⟨bl, 0, none⟩ (.int .i64 n)) :=
  ⟨h.at_.far (by have := G.gs; have := G.sl; show bl ≠ g; omega) G.ol _, h.below.setCell (by have := G.gs; have := G.sl; show g ≤ bl; omega) _, h.cs.set_other (by have := G.sl; omega) _ _, h.cl.set 0 _, h.r0.set G.bl_ _ _, h.r1.set G.bl_ _ _⟩
theorem setL1 (h : Ph g ok bad bs bl w0 d l0 l1 s0 s1 x0 x1 W) (G : Geo g ok bad bs bl w0) (n : Int) : Ph g ok bad bs bl w0 d l0 n s0 s1 x0 x1 (W.setCell ⟨bl, 1, none⟩ (.int .i64 n)) :=
  ⟨h.at_.far (by have := G.gs; have := G.sl; show bl ≠ g; omega) G.ol _, h.below.setCell (by have := G.gs; have := G.sl; show g ≤ bl; omega) _, h.cs.set_other (by have := G.sl; omega) _ _, h.cl.set 1 _, h.r0.set G.bl_ _ _, h.r1.set G.bl_ _ _⟩
theorem inv (h : Ph g ok bad bs bl w0 d l0 l1 s0 s1 x0 x1 W) (hk : Keeps d l0 l1 rt) (h0 : x0 = d.a.sure) (h1 : x1 = d.b.sure) : Inv g ok bad bs bl w0 d l0 l1 rt s0 s1 W :=
  ⟨hk, h.at_, h.below, h.cs, h.cl, h0 ▸ h.r0, h1 ▸ h.r1⟩
end Ph
theorem read_rw {g : Nat} {ok bad : Nat → Prop} {bs bl : Nat} {w0 W : World} {d : D} (G : Geo g ok bad bs bl w0) (hA : At g ok d W) (hg : Good d) (ho : d.off = false) (hbl : bl < W.heap.size) (i : Bool) :
    Calls Try.prog 13 #[.pointer (some ⟨g, 0, none⟩), .int .i64 (iv i)] W fun e w' => ∃ A c, e = .returned (.tuple #[.slice A (d.fl i).now.length c, .int .i64 0]) ∧ Rw bad (.slice A (d.fl i).now.length c) (d.fl i).now w' ∧ Below W.heap.size W w' := by
  have hl : (d.fl i).now.length ≤ 140737488355328 := by have := (flok hg i).now; omega
  refine (disk_Read.calls hA hg.room.pos ho i hl).mono ?_
  rintro e w' ⟨v, h1, h2, h3⟩
  obtain ⟨A, c, rfl⟩ := Kd.R_slice h2
  exact ⟨A, c, h1, Rw.of_R h2 (fun k hk hb => by have := G.only k hb; omega), h3⟩
theorem read_rw' {g : Nat} {ok bad : Nat → Prop} {W : World} {d : D} (hb : ∀ k, bad k → k < W.heap.size) (hA : At g ok d W) (hg : Good d) (ho : d.off = false) (i : Bool) :
    Calls Try.prog 13 #[.pointer (some ⟨g, 0, none⟩), .int .i64 (iv i)] W fun e w' => ∃ A c, e = .returned (.tuple #[.slice A (d.fl i).now.length c, .int .i64 0]) ∧ Rw bad (.slice A (d.fl i).now.length c) (d.fl i).now w' ∧ Below W.heap.size W w' := by
  have hl : (d.fl i).now.length ≤ 140737488355328 := by have := (flok hg i).now; omega
  refine (disk_Read.calls hA hg.room.pos ho i hl).mono ?_
  rintro e w' ⟨v, h1, h2, h3⟩
  obtain ⟨A, c, rfl⟩ := Kd.R_slice h2
  exact ⟨A, c, h1, Rw.of_R h2 (fun k hk hb' => by have := hb k hb'; omega), h3⟩
/-- What the last rounds hold. -/
structure Fi (g : Nat) (ok bad : Nat → Prop) (bs bl bn : Nat) (w0 : World) (d : D) (l0 l1 : Int) (s0 s1 n0 n1 : Value) (x0 x1 : List Int) (W : World) : Prop where
  ph : Ph g ok bad bs bl w0 d l0 l1 s0 s1 x0 x1 W
  cn : Blk.At bn #[n0, n1] 41 W
structure Gn (g : Nat) (ok bad : Nat → Prop) (bs bl bn : Nat) : Prop where
  bg : bad g
  bn_ : bad bn
  only : ∀ k, bad k → k ≤ bn
  on : ¬ ok bn
  gs : g < bs
  sl : bs < bl
  ln : bl < bn
namespace Fi
variable {g : Nat} {ok bad : Nat → Prop} {bs bl bn : Nat} {w0 : World} {d d' : D} {l0 l1 : Int} {s0 s1 n0 n1 : Value} {x0 x1 : List Int} {W W1 : World}
theorem tn (h : Fi g ok bad bs bl bn w0 d l0 l1 s0 s1 n0 n1 x0 x1 W) (G : Gn g ok bad bs bl bn) (T : Tn g W W1) (hA : At g ok d' W1) : Fi g ok bad bs bl bn w0 d' l0 l1 s0 s1 n0 n1 x0 x1 W1 :=
  ⟨⟨hA, T.base h.ph.below (Nat.le_refl _) (Nat.le_of_lt h.ph.at_.lt), blk_tn h.ph.cs T (by have := G.gs; omega), blk_tn h.ph.cl T (by have := G.gs; have := G.sl; omega), h.ph.r0.tn T G.bg, h.ph.r1.tn T G.bg⟩, blk_tn h.cn T (by have := G.gs; have := G.sl; have := G.ln; omega)⟩
theorem then_ (h : Fi g ok bad bs bl bn w0 d l0 l1 s0 s1 n0 n1 x0 x1 W) (hb : Below W.heap.size W W1) : Fi g ok bad bs bl bn w0 d l0 l1 s0 s1 n0 n1 x0 x1 W1 := ⟨h.ph.then_ hb, h.cn.below hb h.cn.lt⟩
theorem setN0 (h : Fi g ok bad bs bl bn w0 d l0 l1 s0 s1 n0 n1 x0 x1 W) (G : Gn g ok bad bs bl bn) (v : Value) : Fi g ok bad bs bl bn w0 d l0 l1 s0 s1 v n1 x0 x1 (W.setCell ⟨bn, 0, none⟩ v) :=
  ⟨⟨h.ph.at_.far (by have := G.gs; have := G.sl; have := G.ln; show bn ≠ g; omega) G.on _, h.ph.below.setCell (by have := G.gs; have := G.sl; have := G.ln; show g ≤ bn; omega) _, h.ph.cs.set_other (by have := G.sl; have := G.ln; omega) _ _, h.ph.cl.set_other (by have := G.ln; omega) _ _, h.ph.r0.set G.bn_ _ _, h.ph.r1.set G.bn_ _ _⟩, h.cn.set 0 v⟩
theorem setN1 (h : Fi g ok bad bs bl bn w0 d l0 l1 s0 s1 n0 n1 x0 x1 W) (G : Gn g ok bad bs bl bn) (v : Value) : Fi g ok bad bs bl bn w0 d l0 l1 s0 s1 n0 v x0 x1 (W.setCell ⟨bn, 1, none⟩ v) :=
  ⟨⟨h.ph.at_.far (by have := G.gs; have := G.sl; have := G.ln; show bn ≠ g; omega) G.on _, h.ph.below.setCell (by have := G.gs; have := G.sl; have := G.ln; show g ≤ bn; omega) _, h.ph.cs.set_other (by have := G.sl; have := G.ln; omega) _ _, h.ph.cl.set_other (by have := G.ln; omega) _ _, h.ph.r0.set G.bn_ _ _, h.ph.r1.set G.bn_ _ _⟩, h.cn.set 1 v⟩
end Fi
theorem rw_taken {bad : Nat → Prop} {A : Option Addr} {c : Nat} {xs ts : List Int} {n : Int} {w : World} (h : Rw bad (.slice A xs.length c) xs w) (h0 : 0 ≤ n) (h1 : n ≤ xs.length) (ht : ts = xs.take n.toNat) :
    (∀ W, (Instr.slice 23 (.slice A xs.length c) none (some (.int .i64 n)) none).run Try.prog W = .ok (.slice A ts.length c) W) ∧ ∀ W, Below w.heap.size w W → (convert 23 9 (.slice A ts.length c)).run Try.prog W = .ok (.string (strOfNums ts)) W := by
  have hl : ts.length = n.toNat := by rw [ht, List.length_take]; omega
  refine ⟨fun W => ?_, fun W hW => ?_⟩
  · have := take23 (A := A) (c := c) (xs := xs) h0 h1 h.cap.2 W
    rw [← ht] at this
    exact this
  · have := ((h.take (m := n.toNat) (by omega)).below hW).str
    rw [← ht, ← hl] at this
    exact this
theorem toList_inj {a b : ByteArray} (h : a.toList = b.toList) : a = b := by
  rw [Lib.toList_data, Lib.toList_data] at h
  exact ByteArray.ext (Array.toList_inj.1 h)
section
attribute [-go_sem] max2_int min2_int
attribute [local go_sem] max_mx min_mn
set_option maxHeartbeats 16000000 in
set_option maxRecDepth 100000 in
theorem law_Sure.calls {w : World} {A : Option Addr} {c : Nat} {l : List Ac} (hC : dA.C w A l.length l) (hc : l.length ≤ c) (hl : ∀ a ∈ l, a.n < 9223372036854775808 ∧ 0 ≤ a.kind) (x : Ac) (Bx : Option Addr) (cx : Nat) (x0 x1 : Int) (y0 y1 : Bool) :
    Calls Try.prog 4 #[.slice A l.length c, .agg #[.int .u8 x.kind, .int .i64 x.file, .int .i64 x.n, .bool x.behind, .slice Bx x.b.length cx, .int .i64 x0, .int .i64 x1, .bool y0, .bool y1]] w fun e w' => e = .returned (.bool true) ∧ Below w.heap.size w w' := by
  have HC0 := Aside0.mk hC
  have HCC := Aside0.mk hc
  have HLN := Aside0.mk hl
  clear hC hc hl
  go_enter Try.func4, Try.ntmps4
  go_wp2_with fail
  obtain ⟨pl, hpl⟩ : ∃ pl, pl = w.heap.size := ⟨_, rfl⟩
  rw [← hpl]
  obtain ⟨w0, hw0⟩ : ∃ w0, w0 = w.alloc (.cells #[.int .u8 x.kind, .int .i64 x.file, .int .i64 x.n, .bool x.behind, .slice Bx x.b.length cx, .int .i64 x0, .int .i64 x1, .bool y0, .bool y1] 36) := ⟨_, rfl⟩
  have hb0 := below_alloc (Below.refl _ w) (.cells #[.int .u8 x.kind, .int .i64 x.file, .int .i64 x.n, .bool x.behind, .slice Bx x.b.length cx, .int .i64 x0, .int .i64 x1, .bool y0, .bool y1] 36)
  have hp0 : Blk.At pl #[.int .u8 x.kind, .int .i64 x.file, .int .i64 x.n, .bool x.behind, .slice Bx x.b.length cx, .int .i64 x0, .int .i64 x1, .bool y0, .bool y1] 36 w0 := by rw [hw0]; exact heap_new w _ hpl
  rw [← hw0] at hb0 ⊢
  have HP0 := Aside0.mk hp0
  have HW0 := Aside0.mk hb0
  have HC := Aside0.mk (Kd.C_below HC0.out hb0)
  clear hp0 hb0 hw0 HC0
  refine (disk_New.calls (by decide) (by decide) (fun k => w0.heap.size < k) (by omega) (fun _ hk => hk)).mono ?_
  rintro e w1 ⟨rfl, hA, hB⟩
  obtain ⟨g, hg⟩ : ∃ g, g = w0.heap.size := ⟨_, rfl⟩
  have HGE := Aside0.mk hg.symm
  rw [← hg] at hA hB ⊢
  have HA1 := Aside0.mk hA
  have HB1 := Aside0.mk hB
  have HPL := Aside0.mk (show pl < g by rw [hg]; exact HP0.out.lt)
  clear hA hB hg hpl
  go_wp2_with fail
  refine (law_far.calls (Kd.C_below HC.out (by rw [HGE.out]; exact HB1.out)) HCC.out).mono ?_
  rintro e w2 ⟨bf, rfl, hB⟩
  have HA2 := Aside0.mk (HA1.out.below hB)
  have HB2 := Aside0.mk (HB1.out.trans (hB.mono (Nat.le_of_lt HA1.out.lt)))
  clear hB HA1 HB1
  have FIN : ∀ W, Below g w0 W → Below w.heap.size w W := fun W h => HW0.out.trans (h.mono (by rw [← HGE.out]; exact HW0.out.size))
  have FIN_ := Aside0.mk FIN
  clear FIN
  cases bf
  case true =>
    go_wp2_with fail
    refine (law_alive.calls _).mono ?_
    rintro e w3 ⟨rfl, hB⟩
    have HB3 := Aside0.mk (HB2.out.trans (hB.mono (Nat.le_of_lt HA2.out.lt)))
    clear hB
    go_wp2_with fail
    go_ret
    exact ⟨rfl, FIN_.out _ HB3.out⟩
  have HS := Aside0.mk (law_short.calls (A := A) HCC.out)
  obtain ⟨ms, hms⟩ : ∃ ms, ms = sh l.length := ⟨_, rfl⟩
  have HMS := Aside0.mk (show ms ≤ l.length ∧ ms ≤ 60 from by rw [hms]; unfold sh; split <;> omega)
  rw [← hms] at HS
  clear hms
  go_wp2_with fail
  refine (HS.out _).mono ?_
  rintro e w3 ⟨rfl, hw3⟩
  obtain ⟨bs, hbs⟩ : ∃ bs, bs = w2.heap.size := ⟨_, rfl⟩
  have hgs : g < bs := by rw [hbs]; exact HA2.out.lt
  obtain ⟨ok, hok⟩ : ∃ ok : Nat → Prop, ok = (fun k => g < k ∧ (k < w2.heap.size ∨ w3.heap.size ≤ k)) := ⟨_, rfl⟩
  have hb3 : Below w2.heap.size w2 w3 := by rw [hw3]; exact below_alloc (below_alloc (Below.refl _ w2) _) _
  have hs3 : w3.heap.size = bs + 2 := by rw [hw3, size_alloc, size_alloc, hbs]
  have hc3 : Blk.At bs #[.slice none 0 0, .slice none 0 0] 41 w3 := by rw [hw3]; exact Blk.At.alloc (show Blk.At bs _ 41 (w2.alloc _) from heap_new w2 _ hbs) _
  have hl3 : Blk.At (bs + 1) #[.int .i64 0, .int .i64 0] 33 w3 := by rw [hw3]; exact heap_new _ _ (by rw [size_alloc, hbs])
  have HG := Aside0.mk (show Geo g ok (fun k => k = g ∨ k = bs ∨ k = bs + 1) bs (bs + 1) w0 from ⟨HGE.out, .inl rfl, .inr (.inl rfl), .inr (.inr rfl), fun k hk => by omega, by rw [hok]; rintro ⟨_, h⟩; omega, by rw [hok]; rintro ⟨_, h⟩; omega, hgs, by omega⟩)
  obtain ⟨bad, hbad⟩ : ∃ bad : Nat → Prop, bad = (fun k => k = g ∨ k = bs ∨ k = bs + 1) := ⟨_, rfl⟩
  obtain ⟨bl, hbl⟩ : ∃ bl, bl = bs + 1 := ⟨_, rfl⟩
  have HI3 := Aside0.mk (show Inv g ok bad bs bl w0 (newD 1048576) 0 0 0 (.slice none 0 0) (.slice none 0 0) w3 from ⟨keeps_new, by rw [hok]; exact at_skip HA2.out hb3, HB2.out.trans (hb3.mono (Nat.le_of_lt HA2.out.lt)), hc3, by rw [hbl]; exact hl3, Rw.nil _ _, Rw.nil _ _⟩)
  rw [← hbad, ← hbl] at HG
  rw [← hbs, ← hbl]
  clear hbs hgs hok hb3 hs3 hc3 hl3 hbad hbl HA2 HB2 hw3
  go_wp2_with fail
  go_loopw [9, 44] (fun rv j wr => ∃ (n : Nat) (d : D) (l0 l1 rt : Int) (s0 s1 : Value), n ≤ ms ∧ rv = .int .i64 rt ∧ j = .int .i64 n ∧ Aside0 (Inv g ok bad bs bl w0 d l0 l1 rt s0 s1 wr)) (fun _ j _ => ms - (intOf j).toNat)
  case atStart => exact ⟨0, _, 0, 0, 0, _, _, Nat.zero_le _, rfl, rfl, HI3⟩
  case round =>
    clear HI3
    obtain ⟨n, d, l0, l1, rt, s0, s1, hn, rfl, rfl, HI⟩ := hrel
    by_cases hlt : n < ms
    · have hl : n < l.length := by have := HMS.out; omega
      obtain ⟨ad, Ba, ca, k0, k1, c0, c1, rfl, hb, hbC, hk, hcs, hx⟩ := script_at HC.out hl
      have HLa := Aside0.mk (HLN.out _ (List.getElem_mem hl))
      generalize l[n] = a at hb hbC hk hcs hx HLa
      obtain ⟨X, hX⟩ : ∃ X, X = ad.add (n * 9) := ⟨_, rfl⟩
      have hXe : ad.add (n * 9) = X := hX.symm
      rw [hXe] at hx
      clear hX
      have HBw := Aside0.mk (show Below w0.heap.size w0 wr by rw [HGE.out]; exact HI.out.below)
      have hx0 : wr.cell? X = some (.int .u8 a.kind) := pw_cell_below HBw.out (hx 0 _ rfl)
      have hx1 : wr.cell? ⟨X.block, X.off + 1, none⟩ = some (.int .i64 a.file) := pw_cell_below HBw.out (hx 1 _ rfl)
      have hx2 : wr.cell? ⟨X.block, X.off + 2, none⟩ = some (.int .i64 a.n) := pw_cell_below HBw.out (hx 2 _ rfl)
      have hx3 : wr.cell? ⟨X.block, X.off + 3, none⟩ = some (.bool a.behind) := pw_cell_below HBw.out (hx 3 _ rfl)
      have hx4 : wr.cell? ⟨X.block, X.off + 4, none⟩ = some (.slice Ba a.b.length ca) := pw_cell_below HBw.out (hx 4 _ rfl)
      have hx5 : wr.cell? ⟨X.block, X.off + 5, none⟩ = some (.int .i64 k0) := pw_cell_below HBw.out (hx 5 _ rfl)
      have hx6 : wr.cell? ⟨X.block, X.off + 6, none⟩ = some (.int .i64 k1) := pw_cell_below HBw.out (hx 6 _ rfl)
      have hx7 : wr.cell? ⟨X.block, X.off + 7, none⟩ = some (.bool c0) := pw_cell_below HBw.out (hx 7 _ rfl)
      have hx8 : wr.cell? ⟨X.block, X.off + 8, none⟩ = some (.bool c1) := pw_cell_below HBw.out (hx 8 _ rfl)
      have HVa := Aside0.mk (Kd.V_below (V_arg hbC hb) HBw.out)
      have HK := Aside0.mk (And.intro hk hcs)
      have hb1 := below_alloc (Below.refl _ wr) (.cells #[.int .u8 a.kind, .int .i64 a.file, .int .i64 a.n, .bool a.behind, .slice Ba a.b.length ca, .int .i64 k0, .int .i64 k1, .bool c0, .bool c1] 36)
      have HI1 := Aside0.mk (HI.out.then_ HG.out hb1)
      have HVb := Aside0.mk (Kd.V_below HVa.out hb1)
      have hq0 := Blk.At.new wr #[.int .u8 a.kind, .int .i64 a.file, .int .i64 a.n, .bool a.behind, .slice Ba a.b.length ca, .int .i64 k0, .int .i64 k1, .bool c0, .bool c1] 36
      obtain ⟨qa, hqa⟩ : ∃ qa, qa = wr.heap.size := ⟨_, rfl⟩
      rw [← hqa] at hq0
      have HQa := Aside0.mk hq0
      have HQN := Aside0.mk (show qa ≠ g by have := HI.out.at_.lt; omega)
      have HQS := Aside0.mk (show qa ≠ bs ∧ qa ≠ bl by have h1 := HI.out.cs.lt; have h2 := HI.out.cl.lt; omega)
      have en : wrap64 ((n : Int) + 1) = ((n + 1 : Nat) : Int) := w64n (by have := HMS.out; omega)
      have HQE := Aside0.mk hqa.symm
      clear hx hb hbC hk hcs HVa hb1 hq0 hqa
      obtain ⟨z, hz⟩ : ∃ z, z = Int.tmod a.kind 8 := ⟨_, rfl⟩
      have hzc : Int.tmod a.kind 8 = z := hz.symm
      have HZ := Aside0.mk (show 0 ≤ z ∧ z < 8 from by rw [hz]; exact ⟨Int.tmod_nonneg _ HLa.out.2, Int.tmod_lt_of_pos _ (by decide)⟩)
      have HZC := Aside0.mk hzc
      clear hz
      by_cases hskip : 3 < z ∧ z < 7
      · have t1 : decide (z > 3) = true := decide_eq_true hskip.1
        have t2 : decide (z < 7) = true := decide_eq_true hskip.2
        clear hskip
        go_wp2_with fail
        rw [en]
        go_roundw
        case rel => exact ⟨n + 1, d, l0, l1, rt, s0, s1, by omega, rfl, rfl, HI1⟩
        case measure => simp [intOf]; omega
      have hmild : Mild (Int.tmod a.kind 8) := by rw [hzc]; unfold Mild; have := HZ.out; omega
      have HSC := Aside0.mk (sure_does (a := a) (d := d) hmild HI.out.keeps.fuse)
      have HGD2 := Aside0.mk (good_does HI.out.keeps.good a HLa.out.1)
      obtain ⟨Wa, hWa⟩ : ∃ Wa, Wa = wr.alloc (.cells #[.int .u8 a.kind, .int .i64 a.file, .int .i64 a.n, .bool a.behind, .slice Ba a.b.length ca, .int .i64 k0, .int .i64 k1, .bool c0, .bool c1] 36) := ⟨_, rfl⟩
      have hWe := hWa.symm
      rw [← hWa] at HI1 HVb HQa
      have hd : Calls Try.prog 12 #[.pointer (some ⟨g, 0, none⟩), .agg #[.int .u8 a.kind, .int .i64 a.file, .int .i64 a.n, .bool a.behind, .slice Ba a.b.length ca, .int .i64 k0, .int .i64 k1, .bool c0, .bool c1]] Wa fun e w' => e = .returned (.int .i64 (doesE a d)) ∧ At g ok (doesD a d) w' ∧ Tn g Wa w' :=
        law_does.calls (okb := fun k => k < w0.heap.size) HI1.out.at_ HI.out.keeps.good a Ba ca k0 k1 c0 c1 HK.out.1 HK.out.2 HVb.out (by rw [HGE.out]; omega)
      obtain ⟨E, hE⟩ : ∃ E, E = doesE a d := ⟨_, rfl⟩
      obtain ⟨D2, hD2⟩ : ∃ D2, D2 = doesD a d := ⟨_, rfl⟩
      rw [← hE, ← hD2] at hd HSC
      rw [← hD2] at HGD2
      have HD := Aside0.mk hd
      have HOFF := Aside0.mk HI.out.keeps.off
      clear hd hE hD2 hWa hmild HVb HK
      have hzz : z ≤ 3 ∨ z = 7 := by have := HZ.out; omega
      clear hskip
      have wc0 : Wa.cell? ⟨wr.heap.size, 0, none⟩ = some (.int .u8 a.kind) := by rw [HQE.out]; exact HQa.out.cell 0
      have wc1 : Wa.cell? ⟨wr.heap.size, 1, none⟩ = some (.int .i64 a.file) := by rw [HQE.out]; exact HQa.out.cell 1
      have wc2 : Wa.cell? ⟨wr.heap.size, 2, none⟩ = some (.int .i64 a.n) := by rw [HQE.out]; exact HQa.out.cell 2
      have wc3 : Wa.cell? ⟨wr.heap.size, 3, none⟩ = some (.bool a.behind) := by rw [HQE.out]; exact HQa.out.cell 3
      have wc4 : Wa.cell? ⟨wr.heap.size, 4, none⟩ = some (.slice Ba a.b.length ca) := by rw [HQE.out]; exact HQa.out.cell 4
      have wc5 : Wa.cell? ⟨wr.heap.size, 5, none⟩ = some (.int .i64 k0) := by rw [HQE.out]; exact HQa.out.cell 5
      have wc6 : Wa.cell? ⟨wr.heap.size, 6, none⟩ = some (.int .i64 k1) := by rw [HQE.out]; exact HQa.out.cell 6
      have wc7 : Wa.cell? ⟨wr.heap.size, 7, none⟩ = some (.bool c0) := by rw [HQE.out]; exact HQa.out.cell 7
      have wc8 : Wa.cell? ⟨wr.heap.size, 8, none⟩ = some (.bool c1) := by rw [HQE.out]; exact HQa.out.cell 8
      rcases hzz with hz3 | hz3
      · skip
        have t1 : decide (z > 3) = false := decide_eq_false (by omega)
        have HZ3 := Aside0.mk hz3
        clear hz3
        go_wp2_with fail
        refine HD.out.mono ?_
        rintro e w4 ⟨rfl, hA, hT⟩
        have HA4 := Aside0.mk hA
        have HT4 := Aside0.mk hT
        have HQ4 := Aside0.mk (blk_tn HQa.out hT HQN.out)
        clear hA hT hx0 hx1 hx2 hx3 hx4 hx5 hx6 hx7 hx8 wc0 wc1 wc2 wc3 wc4 wc5 wc6 wc7 wc8
        have q0 : w4.cell? ⟨wr.heap.size, 0, none⟩ = some (.int .u8 a.kind) := by rw [HQE.out]; exact HQ4.out.cell 0
        have q1 : w4.cell? ⟨wr.heap.size, 1, none⟩ = some (.int .i64 a.file) := by rw [HQE.out]; exact HQ4.out.cell 1
        have q2 : w4.cell? ⟨wr.heap.size, 2, none⟩ = some (.int .i64 a.n) := by rw [HQE.out]; exact HQ4.out.cell 2
        by_cases hf : a.file < 0
        · obtain ⟨hE1, hDD⟩ := sure_out HSC.out (by omega)
          have f1 : decide (a.file < 0) = true := decide_eq_true hf
          subst hE1
          have HI4 := Aside0.mk (HI1.out.step HG.out HT4.out HI1.out.keeps (by rw [← hDD]; exact HA4.out) rfl rfl)
          clear hDD hf
          go_wp2_with fail
          rw [en]
          go_roundw
          case rel => exact ⟨n + 1, d, l0, l1, rt, s0, s1, by omega, rfl, rfl, HI4⟩
          case measure => simp [intOf]; omega
        have hf0 := hf
        clear hf
        by_cases hf : 1 < a.file
        · obtain ⟨hE1, hDD⟩ := sure_out HSC.out (by omega)
          have f1 : decide (a.file < 0) = false := decide_eq_false hf0
          have f2 : decide (a.file > 1) = true := decide_eq_true hf
          subst hE1
          have HI4 := Aside0.mk (HI1.out.step HG.out HT4.out HI1.out.keeps (by rw [← hDD]; exact HA4.out) rfl rfl)
          clear hDD hf
          go_wp2_with fail
          rw [en]
          go_roundw
          case rel => exact ⟨n + 1, d, l0, l1, rt, s0, s1, by omega, rfl, rfl, HI4⟩
          case measure => simp [intOf]; omega
        have f1 : decide (a.file < 0) = false := decide_eq_false hf0
        have f2 : decide (a.file > 1) = false := decide_eq_false hf
        obtain ⟨i, hfi⟩ := file_two ⟨hf0, hf⟩
        have HSI := Aside0.mk (sure_in HSC.out HOFF.out hfi)
        clear hf0 hf HSC
        by_cases hE0 : E = 0
        case neg =>
          have hEb : (E != 0) = true := by simpa using hE0
          have hDD : D2 = d := by rcases HSI.out with h | h; exact h.2; exact absurd h.1 hE0
          have HI4 := Aside0.mk (HI1.out.step HG.out HT4.out HI1.out.keeps (by rw [← hDD]; exact HA4.out) rfl rfl)
          clear hDD hE0 HSI hfi
          go_wp2_with fail
          rw [en]
          go_roundw
          case rel => exact ⟨n + 1, d, l0, l1, rt, s0, s1, by omega, rfl, rfl, HI4⟩
          case measure => simp [intOf]; omega
        have hEb : (E != 0) = false := by simpa using hE0
        have HS0 := Aside0.mk (show _ from HSI.out.elim (fun h => absurd hE0 h.1) (fun h => h.2))
        rw [HZC.out] at HS0
        clear HSI hE0
        by_cases h1 : z = 1
        case pos =>
          have z1 : (z == 1) = true := by simpa using h1
          have hDD : D2 = syn i d := by rcases HS0.out with h | h | h | h; all_goals first | exact h.2 | omega
          subst hDD
          clear HS0 h1 f1 f2
          have HP4 := Aside0.mk (Ph.of HI1.out HG.out HT4.out HA4.out)
          have HKS := Aside0.mk (keeps_syn HI1.out.keeps i)
          have HFI := Aside0.mk hfi
          clear hfi
          cases i
          · have hfi : a.file = 0 := HFI.out
            rw [hfi] at q1
            have HQ1 := Aside0.mk q1
            have HRD := Aside0.mk (read_rw HG.out (HA4.out.below (below_drew (Below.refl _ _))) HGD2.out ((off_syn _ _).trans HOFF.out) (show bl < w4.drew.heap.size from HP4.out.cl.lt) false)
            rw [show iv false = 0 from rfl, show ((syn false d).fl false).now = d.a.now from rfl] at HRD
            go_wp2_with fail
            refine start_ (n := 11) (S := fun w' => w'.cell? ⟨wr.heap.size, 1, none⟩ = some (.int .i64 0)) (ds := [10]) #[false, false, false, false, false, false, false, false, false, false, false] (by kernel_rfl) rfl rfl (q1) (fun hHeld => ?_)
            refine pure_ (i := 0) (N := some 80) (v := ?_) (a' := ?_) #[true, false, false, false, false, false, false, false, false, false, false] rfl rfl (by kernel_rfl) (fun _ _ _ h => h) (Or.inl ⟨by rfl, ?_⟩) ?_ ?_
            rotate_left
            · intro w'
              go_simp
              with_reducible rfl
            rotate_left
            · simp only [Act.put, List.setIfInBounds_toArray, List.set_cons_zero, List.set_cons_succ, i64_w, i32_w]
              rfl
            refine pure_ (i := 2) (N := some 82) (v := ?_) (a' := ?_) #[true, false, true, false, false, false, false, false, false, false, false] rfl rfl (by kernel_rfl) (fun _ _ _ h => h) (Or.inl ⟨by rfl, ?_⟩) ?_ ?_
            rotate_left
            · intro w'
              go_simp
              with_reducible rfl
            rotate_left
            · simp only [Act.put, List.setIfInBounds_toArray, List.set_cons_zero, List.set_cons_succ, i64_w, i32_w]
              rfl
            refine pure_ (i := 3) (N := some 83) (v := ?_) (a' := ?_) #[true, false, true, true, false, false, false, false, false, false, false] rfl rfl (by kernel_rfl) (fun _ _ _ h => h) (Or.inl ⟨by rfl, ?_⟩) ?_ ?_
            rotate_left
            · intro w'
              go_simp
              with_reducible rfl
            rotate_left
            · simp only [Act.put, List.setIfInBounds_toArray, List.set_cons_zero, List.set_cons_succ, i64_w, i32_w]
              rfl
            refine take_ (i := 1) (N := some 81) (v := ?_) (a' := ?_) #[true, true, true, true, false, false, false, false, false, false, false] rfl rfl (by kernel_rfl) (fun _ _ _ h => h) (Or.inl ⟨by rfl, ?_⟩) hHeld ?_ ?_
            rotate_left
            · intro w' s0
              go_simp
              with_reducible rfl
            rotate_left
            · simp only [Act.put, List.setIfInBounds_toArray, List.set_cons_zero, List.set_cons_succ, i64_w, i32_w]
              rfl
            refine take_ (i := 4) (N := some 84) (v := ?_) (a' := ?_) #[true, true, true, true, true, false, false, false, false, false, false] rfl rfl (by kernel_rfl) (fun _ _ _ h => h) (Or.inl ⟨by rfl, ?_⟩) hHeld ?_ ?_
            rotate_left
            · intro w' s0
              go_simp
              with_reducible rfl
            rotate_left
            · simp only [Act.put, List.setIfInBounds_toArray, List.set_cons_zero, List.set_cons_succ, i64_w, i32_w]
              rfl
            refine one_ (i := 5) (N := some 85) #[true, true, true, true, true, true, false, false, false, false, false] rfl rfl (by kernel_rfl) (by decide) (fun K hK => ?_)
            refine goes_ Try.func13 (by kernel_rfl) rfl #[.pointer (some ⟨g, 0, none⟩), .int .i64 0] (by rfl) rfl rfl (by simp only [List.map_toArray, List.map_cons, List.map_nil]; rfl) ?_
            with_reducible refine (HRD.out).mono ?_
            rintro e w5 ⟨A5, c5, rfl, hR_, hb_⟩
            refine ⟨_, rfl, ?_⟩
            have HP5 := Aside0.mk (HP4.out.then_ ((below_drew (Below.refl _ w4)).trans hb_))
            have HR5 := Aside0.mk hR_
            have HB5 := Aside0.mk ((below_drew (Below.refl _ w4)).trans hb_)
            clear hb_ hR_
            have zs5 : w5.frozen? ⟨bs, 0, none⟩ = false := HP5.out.cs.frozen 0
            have xs5 : w5.cell? ⟨bs, 0, none⟩ = some s0 := HP5.out.cs.cell 0
            refine hK.out _ _ (pw_cell_below HB5.out HQ1.out) (fun hHeld => ?_)
            clear hK K
            refine norm_ (a' := ?_) ?_ ?_
            rotate_left
            · show Act.put _ (some 85) _ = _
              simp only [Act.put, List.setIfInBounds_toArray, List.set_cons_zero, List.set_cons_succ, i64_w, i32_w]
              rfl
            refine pure_ (i := 6) (N := some 79) (v := ?_) (a' := ?_) #[true, true, true, true, true, true, true, false, false, false, false] rfl rfl (by kernel_rfl) (fun _ _ _ h => h) (Or.inl ⟨by rfl, ?_⟩) ?_ ?_
            rotate_left
            · intro w'
              go_simp
              with_reducible rfl
            rotate_left
            · simp only [Act.put, List.setIfInBounds_toArray, List.set_cons_zero, List.set_cons_succ, i64_w, i32_w]
              rfl
            refine pure_ (i := 7) (N := some 86) (v := ?_) (a' := ?_) #[true, true, true, true, true, true, true, true, false, false, false] rfl rfl (by kernel_rfl) (fun _ _ _ h => h) (Or.inl ⟨by rfl, ?_⟩) ?_ ?_
            rotate_left
            · intro w'
              go_simp
              with_reducible rfl
            rotate_left
            · simp only [Act.put, List.setIfInBounds_toArray, List.set_cons_zero, List.set_cons_succ, i64_w, i32_w]
              rfl
            refine pure_ (i := 8) (N := some 87) (v := ?_) (a' := ?_) #[true, true, true, true, true, true, true, true, true, false, false] rfl rfl (by kernel_rfl) (fun _ _ _ h => h) (Or.inl ⟨by rfl, ?_⟩) ?_ ?_
            rotate_left
            · intro w'
              go_simp
              with_reducible rfl
            rotate_left
            · simp only [Act.put, List.setIfInBounds_toArray, List.set_cons_zero, List.set_cons_succ, i64_w, i32_w]
              rfl
            refine pure_ (i := 9) (N := some 88) (v := ?_) (a' := ?_) #[true, true, true, true, true, true, true, true, true, true, false] rfl rfl (by kernel_rfl) (fun _ _ _ h => h) (Or.inl ⟨by rfl, ?_⟩) ?_ ?_
            rotate_left
            · intro w'
              go_simp
              with_reducible rfl
            rotate_left
            · simp only [Act.put, List.setIfInBounds_toArray, List.set_cons_zero, List.set_cons_succ, i64_w, i32_w]
              rfl
            refine last_ (i := 10) (N := none) #[true, true, true, true, true, true, true, true, true, true, true] rfl rfl (by kernel_rfl) (by decide) (fun K hK => ?_)
            refine skip_ (w1 := ?_) (by rfl) rfl ?_ ?_
            rotate_left
            · go_simp
              rfl
            refine hK.out _ _ ?_
            clear hK K
            refine done_ (by kernel_rfl) ?_
            have HP6 := Aside0.mk (HP5.out.setS0 HG.out HR5.out)
            have q6 : (w5.setCell ⟨bs, 0, none⟩ (.slice A5 d.a.now.length c5)).cell? ⟨wr.heap.size, 1, none⟩ = some (.int .i64 0) := (World.cell?_of_block (w := w5) (Below.heap_setCell _ _ _ _ (by rw [HQE.out]; exact HQS.out.1))).trans (pw_cell_below HB5.out HQ1.out)
            generalize w5.setCell ⟨bs, 0, none⟩ (.slice A5 d.a.now.length c5) = w6 at HP6 q6 ⊢
            have y6 : w6.cell? ⟨bs, 0, none⟩ = some (.slice A5 d.a.now.length c5) := HP6.out.cs.cell 0
            have z6 : w6.frozen? ⟨bl, 0, none⟩ = false := HP6.out.cl.frozen 0
            have z6d : w6.drew.frozen? ⟨bl, 0, none⟩ = false := HP6.out.cl.frozen 0
            have x6 : w6.cell? ⟨bl, 0, none⟩ = some (.int .i64 l0) := HP6.out.cl.cell 0
            have x6d : w6.drew.cell? ⟨bl, 0, none⟩ = some (.int .i64 l0) := HP6.out.cl.cell 0
            clear zs5 xs5 q0 q1 q2 HRD
            go_wp2_with fail
            refine start_ (n := 9) (S := fun w' => w'.cell? ⟨wr.heap.size, 1, none⟩ = some (.int .i64 0) ∧ w'.cell? ⟨bs, 0, none⟩ = some (.slice A5 d.a.now.length c5)) (ds := [8]) #[false, false, false, false, false, false, false, false, false] (by kernel_rfl) rfl rfl ⟨q6, y6⟩ (fun hHeld => ?_)
            refine pure_ (i := 0) (N := some 89) (v := ?_) (a' := ?_) #[true, false, false, false, false, false, false, false, false] rfl rfl (by kernel_rfl) (fun _ _ _ h => h) (Or.inl ⟨by rfl, ?_⟩) ?_ ?_
            rotate_left
            · intro w'
              go_simp
              with_reducible rfl
            rotate_left
            · simp only [Act.put, List.setIfInBounds_toArray, List.set_cons_zero, List.set_cons_succ, i64_w, i32_w]
              rfl
            refine pure_ (i := 2) (N := some 91) (v := ?_) (a' := ?_) #[true, false, true, false, false, false, false, false, false] rfl rfl (by kernel_rfl) (fun _ _ _ h => h) (Or.inl ⟨by rfl, ?_⟩) ?_ ?_
            rotate_left
            · intro w'
              go_simp
              with_reducible rfl
            rotate_left
            · simp only [Act.put, List.setIfInBounds_toArray, List.set_cons_zero, List.set_cons_succ, i64_w, i32_w]
              rfl
            refine take_ (i := 1) (N := some 90) (v := ?_) (a' := ?_) #[true, true, true, false, false, false, false, false, false] rfl rfl (by kernel_rfl) (fun _ _ _ h => h) (Or.inl ⟨by rfl, ?_⟩) hHeld ?_ ?_
            rotate_left
            · rintro w' ⟨s0, s1⟩
              go_simp
              with_reducible rfl
            rotate_left
            · simp only [Act.put, List.setIfInBounds_toArray, List.set_cons_zero, List.set_cons_succ, i64_w, i32_w]
              rfl
            refine take_ (i := 3) (N := some 92) (v := ?_) (a' := ?_) #[true, true, true, true, false, false, false, false, false] rfl rfl (by kernel_rfl) (fun _ _ _ h => h) (Or.inl ⟨by rfl, ?_⟩) hHeld ?_ ?_
            rotate_left
            · rintro w' ⟨s0, s1⟩
              go_simp
              with_reducible rfl
            rotate_left
            · simp only [Act.put, List.setIfInBounds_toArray, List.set_cons_zero, List.set_cons_succ, i64_w, i32_w]
              rfl
            refine pure_ (i := 4) (N := some 93) (v := ?_) (a' := ?_) #[true, true, true, true, true, false, false, false, false] rfl rfl (by kernel_rfl) (fun _ _ _ h => h) (Or.inl ⟨by rfl, ?_⟩) ?_ ?_
            rotate_left
            · intro w'
              go_simp
              with_reducible rfl
            rotate_left
            · simp only [Act.put, List.setIfInBounds_toArray, List.set_cons_zero, List.set_cons_succ, i64_w, i32_w]
              rfl
            refine take_ (i := 5) (N := some 94) (v := ?_) (a' := ?_) #[true, true, true, true, true, true, false, false, false] rfl rfl (by kernel_rfl) (fun _ _ _ h => h) (Or.inl ⟨by rfl, ?_⟩) hHeld ?_ ?_
            rotate_left
            · rintro w' ⟨s0, s1⟩
              go_simp
              with_reducible rfl
            rotate_left
            · simp only [Act.put, List.setIfInBounds_toArray, List.set_cons_zero, List.set_cons_succ, i64_w, i32_w]
              rfl
            refine pure_ (i := 6) (N := some 95) (v := ?_) (a' := ?_) #[true, true, true, true, true, true, true, false, false] rfl rfl (by kernel_rfl) (fun _ _ _ h => h) (Or.inl ⟨by rfl, ?_⟩) ?_ ?_
            rotate_left
            · intro w'
              go_simp
              with_reducible rfl
            rotate_left
            · simp only [Act.put, List.setIfInBounds_toArray, List.set_cons_zero, List.set_cons_succ, i64_w, i32_w]
              rfl
            refine pure_ (i := 7) (N := some 96) (v := ?_) (a' := ?_) #[true, true, true, true, true, true, true, true, false] rfl rfl (by kernel_rfl) (fun _ _ _ h => h) (Or.inl ⟨by rfl, ?_⟩) ?_ ?_
            rotate_left
            · intro w'
              go_simp
              with_reducible rfl
            rotate_left
            · simp only [Act.put, List.setIfInBounds_toArray, List.set_cons_zero, List.set_cons_succ, i64_w, i32_w]
              rfl
            refine last_ (i := 8) (N := none) #[true, true, true, true, true, true, true, true, true] rfl rfl (by kernel_rfl) (by decide) (fun K hK => ?_)
            refine skip_ (w1 := ?_) (by rfl) rfl ?_ ?_
            rotate_left
            · go_simp
              rfl
            refine hK.out _ _ ?_
            clear hK K
            refine done_ (by kernel_rfl) ?_
            have HI4 := Aside0.mk (Ph.inv ((HP6.out.then_ (below_drew (Below.refl _ w6))).setL0 HG.out (d.a.now.length : Int)) HKS.out rfl rfl)
            clear q6 y6 z6 z6d x6 x6d hfi
            go_wp2_with fail
            rw [en]
            go_roundw
            case rel => exact ⟨n + 1, _, _, _, rt, _, _, by omega, rfl, rfl, HI4⟩
            case measure => simp [intOf]; omega
          · have hfi : a.file = 1 := HFI.out
            rw [hfi] at q1
            have HQ1 := Aside0.mk q1
            have HRD := Aside0.mk (read_rw HG.out (HA4.out.below (below_drew (Below.refl _ _))) HGD2.out ((off_syn _ _).trans HOFF.out) (show bl < w4.drew.heap.size from HP4.out.cl.lt) true)
            rw [show iv true = 1 from rfl, show ((syn true d).fl true).now = d.b.now from rfl] at HRD
            go_wp2_with fail
            refine start_ (n := 11) (S := fun w' => w'.cell? ⟨wr.heap.size, 1, none⟩ = some (.int .i64 1)) (ds := [10]) #[false, false, false, false, false, false, false, false, false, false, false] (by kernel_rfl) rfl rfl (q1) (fun hHeld => ?_)
            refine pure_ (i := 0) (N := some 80) (v := ?_) (a' := ?_) #[true, false, false, false, false, false, false, false, false, false, false] rfl rfl (by kernel_rfl) (fun _ _ _ h => h) (Or.inl ⟨by rfl, ?_⟩) ?_ ?_
            rotate_left
            · intro w'
              go_simp
              with_reducible rfl
            rotate_left
            · simp only [Act.put, List.setIfInBounds_toArray, List.set_cons_zero, List.set_cons_succ, i64_w, i32_w]
              rfl
            refine pure_ (i := 2) (N := some 82) (v := ?_) (a' := ?_) #[true, false, true, false, false, false, false, false, false, false, false] rfl rfl (by kernel_rfl) (fun _ _ _ h => h) (Or.inl ⟨by rfl, ?_⟩) ?_ ?_
            rotate_left
            · intro w'
              go_simp
              with_reducible rfl
            rotate_left
            · simp only [Act.put, List.setIfInBounds_toArray, List.set_cons_zero, List.set_cons_succ, i64_w, i32_w]
              rfl
            refine pure_ (i := 3) (N := some 83) (v := ?_) (a' := ?_) #[true, false, true, true, false, false, false, false, false, false, false] rfl rfl (by kernel_rfl) (fun _ _ _ h => h) (Or.inl ⟨by rfl, ?_⟩) ?_ ?_
            rotate_left
            · intro w'
              go_simp
              with_reducible rfl
            rotate_left
            · simp only [Act.put, List.setIfInBounds_toArray, List.set_cons_zero, List.set_cons_succ, i64_w, i32_w]
              rfl
            refine take_ (i := 1) (N := some 81) (v := ?_) (a' := ?_) #[true, true, true, true, false, false, false, false, false, false, false] rfl rfl (by kernel_rfl) (fun _ _ _ h => h) (Or.inl ⟨by rfl, ?_⟩) hHeld ?_ ?_
            rotate_left
            · intro w' s0
              go_simp
              with_reducible rfl
            rotate_left
            · simp only [Act.put, List.setIfInBounds_toArray, List.set_cons_zero, List.set_cons_succ, i64_w, i32_w]
              rfl
            refine take_ (i := 4) (N := some 84) (v := ?_) (a' := ?_) #[true, true, true, true, true, false, false, false, false, false, false] rfl rfl (by kernel_rfl) (fun _ _ _ h => h) (Or.inl ⟨by rfl, ?_⟩) hHeld ?_ ?_
            rotate_left
            · intro w' s0
              go_simp
              with_reducible rfl
            rotate_left
            · simp only [Act.put, List.setIfInBounds_toArray, List.set_cons_zero, List.set_cons_succ, i64_w, i32_w]
              rfl
            refine one_ (i := 5) (N := some 85) #[true, true, true, true, true, true, false, false, false, false, false] rfl rfl (by kernel_rfl) (by decide) (fun K hK => ?_)
            refine goes_ Try.func13 (by kernel_rfl) rfl #[.pointer (some ⟨g, 0, none⟩), .int .i64 1] (by rfl) rfl rfl (by simp only [List.map_toArray, List.map_cons, List.map_nil]; rfl) ?_
            with_reducible refine (HRD.out).mono ?_
            rintro e w5 ⟨A5, c5, rfl, hR_, hb_⟩
            refine ⟨_, rfl, ?_⟩
            have HP5 := Aside0.mk (HP4.out.then_ ((below_drew (Below.refl _ w4)).trans hb_))
            have HR5 := Aside0.mk hR_
            have HB5 := Aside0.mk ((below_drew (Below.refl _ w4)).trans hb_)
            clear hb_ hR_
            have zs5 : w5.frozen? ⟨bs, 1, none⟩ = false := HP5.out.cs.frozen 1
            have xs5 : w5.cell? ⟨bs, 1, none⟩ = some s1 := HP5.out.cs.cell 1
            refine hK.out _ _ (pw_cell_below HB5.out HQ1.out) (fun hHeld => ?_)
            clear hK K
            refine norm_ (a' := ?_) ?_ ?_
            rotate_left
            · show Act.put _ (some 85) _ = _
              simp only [Act.put, List.setIfInBounds_toArray, List.set_cons_zero, List.set_cons_succ, i64_w, i32_w]
              rfl
            refine pure_ (i := 6) (N := some 79) (v := ?_) (a' := ?_) #[true, true, true, true, true, true, true, false, false, false, false] rfl rfl (by kernel_rfl) (fun _ _ _ h => h) (Or.inl ⟨by rfl, ?_⟩) ?_ ?_
            rotate_left
            · intro w'
              go_simp
              with_reducible rfl
            rotate_left
            · simp only [Act.put, List.setIfInBounds_toArray, List.set_cons_zero, List.set_cons_succ, i64_w, i32_w]
              rfl
            refine pure_ (i := 7) (N := some 86) (v := ?_) (a' := ?_) #[true, true, true, true, true, true, true, true, false, false, false] rfl rfl (by kernel_rfl) (fun _ _ _ h => h) (Or.inl ⟨by rfl, ?_⟩) ?_ ?_
            rotate_left
            · intro w'
              go_simp
              with_reducible rfl
            rotate_left
            · simp only [Act.put, List.setIfInBounds_toArray, List.set_cons_zero, List.set_cons_succ, i64_w, i32_w]
              rfl
            refine pure_ (i := 8) (N := some 87) (v := ?_) (a' := ?_) #[true, true, true, true, true, true, true, true, true, false, false] rfl rfl (by kernel_rfl) (fun _ _ _ h => h) (Or.inl ⟨by rfl, ?_⟩) ?_ ?_
            rotate_left
            · intro w'
              go_simp
              with_reducible rfl
            rotate_left
            · simp only [Act.put, List.setIfInBounds_toArray, List.set_cons_zero, List.set_cons_succ, i64_w, i32_w]
              rfl
            refine pure_ (i := 9) (N := some 88) (v := ?_) (a' := ?_) #[true, true, true, true, true, true, true, true, true, true, false] rfl rfl (by kernel_rfl) (fun _ _ _ h => h) (Or.inl ⟨by rfl, ?_⟩) ?_ ?_
            rotate_left
            · intro w'
              go_simp
              with_reducible rfl
            rotate_left
            · simp only [Act.put, List.setIfInBounds_toArray, List.set_cons_zero, List.set_cons_succ, i64_w, i32_w]
              rfl
            refine last_ (i := 10) (N := none) #[true, true, true, true, true, true, true, true, true, true, true] rfl rfl (by kernel_rfl) (by decide) (fun K hK => ?_)
            refine skip_ (w1 := ?_) (by rfl) rfl ?_ ?_
            rotate_left
            · go_simp
              rfl
            refine hK.out _ _ ?_
            clear hK K
            refine done_ (by kernel_rfl) ?_
            have HP6 := Aside0.mk (HP5.out.setS1 HG.out HR5.out)
            have q6 : (w5.setCell ⟨bs, 1, none⟩ (.slice A5 d.b.now.length c5)).cell? ⟨wr.heap.size, 1, none⟩ = some (.int .i64 1) := (World.cell?_of_block (w := w5) (Below.heap_setCell _ _ _ _ (by rw [HQE.out]; exact HQS.out.1))).trans (pw_cell_below HB5.out HQ1.out)
            generalize w5.setCell ⟨bs, 1, none⟩ (.slice A5 d.b.now.length c5) = w6 at HP6 q6 ⊢
            have y6 : w6.cell? ⟨bs, 1, none⟩ = some (.slice A5 d.b.now.length c5) := HP6.out.cs.cell 1
            have z6 : w6.frozen? ⟨bl, 1, none⟩ = false := HP6.out.cl.frozen 1
            have z6d : w6.drew.frozen? ⟨bl, 1, none⟩ = false := HP6.out.cl.frozen 1
            have x6 : w6.cell? ⟨bl, 1, none⟩ = some (.int .i64 l1) := HP6.out.cl.cell 1
            have x6d : w6.drew.cell? ⟨bl, 1, none⟩ = some (.int .i64 l1) := HP6.out.cl.cell 1
            clear zs5 xs5 q0 q1 q2 HRD
            go_wp2_with fail
            refine start_ (n := 9) (S := fun w' => w'.cell? ⟨wr.heap.size, 1, none⟩ = some (.int .i64 1) ∧ w'.cell? ⟨bs, 1, none⟩ = some (.slice A5 d.b.now.length c5)) (ds := [8]) #[false, false, false, false, false, false, false, false, false] (by kernel_rfl) rfl rfl ⟨q6, y6⟩ (fun hHeld => ?_)
            refine pure_ (i := 0) (N := some 89) (v := ?_) (a' := ?_) #[true, false, false, false, false, false, false, false, false] rfl rfl (by kernel_rfl) (fun _ _ _ h => h) (Or.inl ⟨by rfl, ?_⟩) ?_ ?_
            rotate_left
            · intro w'
              go_simp
              with_reducible rfl
            rotate_left
            · simp only [Act.put, List.setIfInBounds_toArray, List.set_cons_zero, List.set_cons_succ, i64_w, i32_w]
              rfl
            refine pure_ (i := 2) (N := some 91) (v := ?_) (a' := ?_) #[true, false, true, false, false, false, false, false, false] rfl rfl (by kernel_rfl) (fun _ _ _ h => h) (Or.inl ⟨by rfl, ?_⟩) ?_ ?_
            rotate_left
            · intro w'
              go_simp
              with_reducible rfl
            rotate_left
            · simp only [Act.put, List.setIfInBounds_toArray, List.set_cons_zero, List.set_cons_succ, i64_w, i32_w]
              rfl
            refine take_ (i := 1) (N := some 90) (v := ?_) (a' := ?_) #[true, true, true, false, false, false, false, false, false] rfl rfl (by kernel_rfl) (fun _ _ _ h => h) (Or.inl ⟨by rfl, ?_⟩) hHeld ?_ ?_
            rotate_left
            · rintro w' ⟨s0, s1⟩
              go_simp
              with_reducible rfl
            rotate_left
            · simp only [Act.put, List.setIfInBounds_toArray, List.set_cons_zero, List.set_cons_succ, i64_w, i32_w]
              rfl
            refine take_ (i := 3) (N := some 92) (v := ?_) (a' := ?_) #[true, true, true, true, false, false, false, false, false] rfl rfl (by kernel_rfl) (fun _ _ _ h => h) (Or.inl ⟨by rfl, ?_⟩) hHeld ?_ ?_
            rotate_left
            · rintro w' ⟨s0, s1⟩
              go_simp
              with_reducible rfl
            rotate_left
            · simp only [Act.put, List.setIfInBounds_toArray, List.set_cons_zero, List.set_cons_succ, i64_w, i32_w]
              rfl
            refine pure_ (i := 4) (N := some 93) (v := ?_) (a' := ?_) #[true, true, true, true, true, false, false, false, false] rfl rfl (by kernel_rfl) (fun _ _ _ h => h) (Or.inl ⟨by rfl, ?_⟩) ?_ ?_
            rotate_left
            · intro w'
              go_simp
              with_reducible rfl
            rotate_left
            · simp only [Act.put, List.setIfInBounds_toArray, List.set_cons_zero, List.set_cons_succ, i64_w, i32_w]
              rfl
            refine take_ (i := 5) (N := some 94) (v := ?_) (a' := ?_) #[true, true, true, true, true, true, false, false, false] rfl rfl (by kernel_rfl) (fun _ _ _ h => h) (Or.inl ⟨by rfl, ?_⟩) hHeld ?_ ?_
            rotate_left
            · rintro w' ⟨s0, s1⟩
              go_simp
              with_reducible rfl
            rotate_left
            · simp only [Act.put, List.setIfInBounds_toArray, List.set_cons_zero, List.set_cons_succ, i64_w, i32_w]
              rfl
            refine pure_ (i := 6) (N := some 95) (v := ?_) (a' := ?_) #[true, true, true, true, true, true, true, false, false] rfl rfl (by kernel_rfl) (fun _ _ _ h => h) (Or.inl ⟨by rfl, ?_⟩) ?_ ?_
            rotate_left
            · intro w'
              go_simp
              with_reducible rfl
            rotate_left
            · simp only [Act.put, List.setIfInBounds_toArray, List.set_cons_zero, List.set_cons_succ, i64_w, i32_w]
              rfl
            refine pure_ (i := 7) (N := some 96) (v := ?_) (a' := ?_) #[true, true, true, true, true, true, true, true, false] rfl rfl (by kernel_rfl) (fun _ _ _ h => h) (Or.inl ⟨by rfl, ?_⟩) ?_ ?_
            rotate_left
            · intro w'
              go_simp
              with_reducible rfl
            rotate_left
            · simp only [Act.put, List.setIfInBounds_toArray, List.set_cons_zero, List.set_cons_succ, i64_w, i32_w]
              rfl
            refine last_ (i := 8) (N := none) #[true, true, true, true, true, true, true, true, true] rfl rfl (by kernel_rfl) (by decide) (fun K hK => ?_)
            refine skip_ (w1 := ?_) (by rfl) rfl ?_ ?_
            rotate_left
            · go_simp
              rfl
            refine hK.out _ _ ?_
            clear hK K
            refine done_ (by kernel_rfl) ?_
            have HI4 := Aside0.mk (Ph.inv ((HP6.out.then_ (below_drew (Below.refl _ w6))).setL1 HG.out (d.b.now.length : Int)) HKS.out rfl rfl)
            clear q6 y6 z6 z6d x6 x6d hfi
            go_wp2_with fail
            rw [en]
            go_roundw
            case rel => exact ⟨n + 1, _, _, _, rt, _, _, by omega, rfl, rfl, HI4⟩
            case measure => simp [intOf]; omega
        have z1 : (z == 1) = false := by simpa using h1
        by_cases h2 : z = 2
        case pos =>
          have z2 : (z == 2) = true := by simpa using h2
          have hTR := (show troom a.n (d.fl i) = 0 ∧ D2 = tru i a.n d by rcases HS0.out with h | h | h | h; all_goals first | exact h.2 | omega)
          obtain ⟨hTR, hDD⟩ := hTR
          subst hDD
          have HTR := Aside0.mk hTR
          clear HS0 h2 h1 hTR f1 f2
          have HP4 := Aside0.mk (Ph.of HI1.out HG.out HT4.out HA4.out)
          have HKS := Aside0.mk (keeps_tru HI1.out.keeps i HTR.out)
          have HFI := Aside0.mk hfi
          clear hfi
          cases i
          · have hfi : a.file = 0 := HFI.out
            rw [hfi] at q1
            have z6 : w4.frozen? ⟨bl, 0, none⟩ = false := HP4.out.cl.frozen 0
            have z6d : w4.drew.frozen? ⟨bl, 0, none⟩ = false := HP4.out.cl.frozen 0
            have x6 : w4.cell? ⟨bl, 0, none⟩ = some (.int .i64 l0) := HP4.out.cl.cell 0
            have x6d : w4.drew.cell? ⟨bl, 0, none⟩ = some (.int .i64 l0) := HP4.out.cl.cell 0
            go_wp2_with fail
            refine start_ (n := 11) (S := fun w' => w'.cell? ⟨wr.heap.size, 1, none⟩ = some (.int .i64 0) ∧ w'.cell? ⟨wr.heap.size, 2, none⟩ = some (.int .i64 a.n) ∧ w'.cell? ⟨bl, 0, none⟩ = some (.int .i64 l0)) (ds := [10]) #[false, false, false, false, false, false, false, false, false, false, false] (by kernel_rfl) rfl rfl ⟨q1, q2, x6⟩ (fun hHeld => ?_)
            refine pure_ (i := 0) (N := some 100) (v := ?_) (a' := ?_) #[true, false, false, false, false, false, false, false, false, false, false] rfl rfl (by kernel_rfl) (fun _ _ _ h => h) (Or.inl ⟨by rfl, ?_⟩) ?_ ?_
            rotate_left
            · intro w'
              go_simp
              with_reducible rfl
            rotate_left
            · simp only [Act.put, List.setIfInBounds_toArray, List.set_cons_zero, List.set_cons_succ, i64_w, i32_w]
              rfl
            refine pure_ (i := 2) (N := some 102) (v := ?_) (a' := ?_) #[true, false, true, false, false, false, false, false, false, false, false] rfl rfl (by kernel_rfl) (fun _ _ _ h => h) (Or.inl ⟨by rfl, ?_⟩) ?_ ?_
            rotate_left
            · intro w'
              go_simp
              with_reducible rfl
            rotate_left
            · simp only [Act.put, List.setIfInBounds_toArray, List.set_cons_zero, List.set_cons_succ, i64_w, i32_w]
              rfl
            refine pure_ (i := 6) (N := some 106) (v := ?_) (a' := ?_) #[true, false, true, false, false, false, true, false, false, false, false] rfl rfl (by kernel_rfl) (fun _ _ _ h => h) (Or.inl ⟨by rfl, ?_⟩) ?_ ?_
            rotate_left
            · intro w'
              go_simp
              with_reducible rfl
            rotate_left
            · simp only [Act.put, List.setIfInBounds_toArray, List.set_cons_zero, List.set_cons_succ, i64_w, i32_w]
              rfl
            refine take_ (i := 1) (N := some 101) (v := ?_) (a' := ?_) #[true, true, true, false, false, false, true, false, false, false, false] rfl rfl (by kernel_rfl) (fun _ _ _ h => h) (Or.inl ⟨by rfl, ?_⟩) hHeld ?_ ?_
            rotate_left
            · rintro w' ⟨s0, s1, s2⟩
              go_simp
              with_reducible rfl
            rotate_left
            · simp only [Act.put, List.setIfInBounds_toArray, List.set_cons_zero, List.set_cons_succ, i64_w, i32_w]
              rfl
            refine take_ (i := 3) (N := some 103) (v := ?_) (a' := ?_) #[true, true, true, true, false, false, true, false, false, false, false] rfl rfl (by kernel_rfl) (fun _ _ _ h => h) (Or.inl ⟨by rfl, ?_⟩) hHeld ?_ ?_
            rotate_left
            · rintro w' ⟨s0, s1, s2⟩
              go_simp
              with_reducible rfl
            rotate_left
            · simp only [Act.put, List.setIfInBounds_toArray, List.set_cons_zero, List.set_cons_succ, i64_w, i32_w]
              rfl
            refine pure_ (i := 4) (N := some 104) (v := ?_) (a' := ?_) #[true, true, true, true, true, false, true, false, false, false, false] rfl rfl (by kernel_rfl) (fun _ _ _ h => h) (Or.inl ⟨by rfl, ?_⟩) ?_ ?_
            rotate_left
            · intro w'
              go_simp
              with_reducible rfl
            rotate_left
            · simp only [Act.put, List.setIfInBounds_toArray, List.set_cons_zero, List.set_cons_succ, i64_w, i32_w]
              rfl
            refine take_ (i := 5) (N := some 105) (v := ?_) (a' := ?_) #[true, true, true, true, true, true, true, false, false, false, false] rfl rfl (by kernel_rfl) (fun _ _ _ h => h) (Or.inl ⟨by rfl, ?_⟩) hHeld ?_ ?_
            rotate_left
            · rintro w' ⟨s0, s1, s2⟩
              go_simp
              with_reducible rfl
            rotate_left
            · simp only [Act.put, List.setIfInBounds_toArray, List.set_cons_zero, List.set_cons_succ, i64_w, i32_w]
              rfl
            refine take_ (i := 7) (N := some 107) (v := ?_) (a' := ?_) #[true, true, true, true, true, true, true, true, false, false, false] rfl rfl (by kernel_rfl) (fun _ _ _ h => h) (Or.inl ⟨by rfl, ?_⟩) hHeld ?_ ?_
            rotate_left
            · rintro w' ⟨s0, s1, s2⟩
              go_simp
              with_reducible rfl
            rotate_left
            · simp only [Act.put, List.setIfInBounds_toArray, List.set_cons_zero, List.set_cons_succ, i64_w, i32_w]
              rfl
            refine pure_ (i := 8) (N := some 108) (v := ?_) (a' := ?_) #[true, true, true, true, true, true, true, true, true, false, false] rfl rfl (by kernel_rfl) (fun _ _ _ h => h) (Or.inl ⟨by rfl, ?_⟩) ?_ ?_
            rotate_left
            · intro w'
              go_simp
              with_reducible rfl
            rotate_left
            · simp only [Act.put, List.setIfInBounds_toArray, List.set_cons_zero, List.set_cons_succ, i64_w, i32_w]
              rfl
            refine pure_ (i := 9) (N := some 109) (v := ?_) (a' := ?_) #[true, true, true, true, true, true, true, true, true, true, false] rfl rfl (by kernel_rfl) (fun _ _ _ h => h) (Or.inl ⟨by rfl, ?_⟩) ?_ ?_
            rotate_left
            · intro w'
              go_simp
              with_reducible rfl
            rotate_left
            · simp only [Act.put, List.setIfInBounds_toArray, List.set_cons_zero, List.set_cons_succ, i64_w, i32_w]
              rfl
            refine last_ (i := 10) (N := none) #[true, true, true, true, true, true, true, true, true, true, true] rfl rfl (by kernel_rfl) (by decide) (fun K hK => ?_)
            refine skip_ (w1 := ?_) (by rfl) rfl ?_ ?_
            rotate_left
            · go_simp
              rfl
            refine hK.out _ _ ?_
            clear hK K
            refine done_ (by kernel_rfl) ?_
            have HI4 := Aside0.mk (Ph.inv ((HP4.out.then_ (below_drew (Below.refl _ w4))).setL0 HG.out (mn l0 a.n)) HKS.out rfl rfl)
            clear q0 q1 q2 z6 z6d x6 x6d hfi
            go_wp2_with fail
            rw [en]
            go_roundw
            case rel => exact ⟨n + 1, _, _, _, rt, _, _, by omega, rfl, rfl, HI4⟩
            case measure => simp [intOf]; omega
          · have hfi : a.file = 1 := HFI.out
            rw [hfi] at q1
            have z6 : w4.frozen? ⟨bl, 1, none⟩ = false := HP4.out.cl.frozen 1
            have z6d : w4.drew.frozen? ⟨bl, 1, none⟩ = false := HP4.out.cl.frozen 1
            have x6 : w4.cell? ⟨bl, 1, none⟩ = some (.int .i64 l1) := HP4.out.cl.cell 1
            have x6d : w4.drew.cell? ⟨bl, 1, none⟩ = some (.int .i64 l1) := HP4.out.cl.cell 1
            go_wp2_with fail
            refine start_ (n := 11) (S := fun w' => w'.cell? ⟨wr.heap.size, 1, none⟩ = some (.int .i64 1) ∧ w'.cell? ⟨wr.heap.size, 2, none⟩ = some (.int .i64 a.n) ∧ w'.cell? ⟨bl, 1, none⟩ = some (.int .i64 l1)) (ds := [10]) #[false, false, false, false, false, false, false, false, false, false, false] (by kernel_rfl) rfl rfl ⟨q1, q2, x6⟩ (fun hHeld => ?_)
            refine pure_ (i := 0) (N := some 100) (v := ?_) (a' := ?_) #[true, false, false, false, false, false, false, false, false, false, false] rfl rfl (by kernel_rfl) (fun _ _ _ h => h) (Or.inl ⟨by rfl, ?_⟩) ?_ ?_
            rotate_left
            · intro w'
              go_simp
              with_reducible rfl
            rotate_left
            · simp only [Act.put, List.setIfInBounds_toArray, List.set_cons_zero, List.set_cons_succ, i64_w, i32_w]
              rfl
            refine pure_ (i := 2) (N := some 102) (v := ?_) (a' := ?_) #[true, false, true, false, false, false, false, false, false, false, false] rfl rfl (by kernel_rfl) (fun _ _ _ h => h) (Or.inl ⟨by rfl, ?_⟩) ?_ ?_
            rotate_left
            · intro w'
              go_simp
              with_reducible rfl
            rotate_left
            · simp only [Act.put, List.setIfInBounds_toArray, List.set_cons_zero, List.set_cons_succ, i64_w, i32_w]
              rfl
            refine pure_ (i := 6) (N := some 106) (v := ?_) (a' := ?_) #[true, false, true, false, false, false, true, false, false, false, false] rfl rfl (by kernel_rfl) (fun _ _ _ h => h) (Or.inl ⟨by rfl, ?_⟩) ?_ ?_
            rotate_left
            · intro w'
              go_simp
              with_reducible rfl
            rotate_left
            · simp only [Act.put, List.setIfInBounds_toArray, List.set_cons_zero, List.set_cons_succ, i64_w, i32_w]
              rfl
            refine take_ (i := 1) (N := some 101) (v := ?_) (a' := ?_) #[true, true, true, false, false, false, true, false, false, false, false] rfl rfl (by kernel_rfl) (fun _ _ _ h => h) (Or.inl ⟨by rfl, ?_⟩) hHeld ?_ ?_
            rotate_left
            · rintro w' ⟨s0, s1, s2⟩
              go_simp
              with_reducible rfl
            rotate_left
            · simp only [Act.put, List.setIfInBounds_toArray, List.set_cons_zero, List.set_cons_succ, i64_w, i32_w]
              rfl
            refine take_ (i := 3) (N := some 103) (v := ?_) (a' := ?_) #[true, true, true, true, false, false, true, false, false, false, false] rfl rfl (by kernel_rfl) (fun _ _ _ h => h) (Or.inl ⟨by rfl, ?_⟩) hHeld ?_ ?_
            rotate_left
            · rintro w' ⟨s0, s1, s2⟩
              go_simp
              with_reducible rfl
            rotate_left
            · simp only [Act.put, List.setIfInBounds_toArray, List.set_cons_zero, List.set_cons_succ, i64_w, i32_w]
              rfl
            refine pure_ (i := 4) (N := some 104) (v := ?_) (a' := ?_) #[true, true, true, true, true, false, true, false, false, false, false] rfl rfl (by kernel_rfl) (fun _ _ _ h => h) (Or.inl ⟨by rfl, ?_⟩) ?_ ?_
            rotate_left
            · intro w'
              go_simp
              with_reducible rfl
            rotate_left
            · simp only [Act.put, List.setIfInBounds_toArray, List.set_cons_zero, List.set_cons_succ, i64_w, i32_w]
              rfl
            refine take_ (i := 5) (N := some 105) (v := ?_) (a' := ?_) #[true, true, true, true, true, true, true, false, false, false, false] rfl rfl (by kernel_rfl) (fun _ _ _ h => h) (Or.inl ⟨by rfl, ?_⟩) hHeld ?_ ?_
            rotate_left
            · rintro w' ⟨s0, s1, s2⟩
              go_simp
              with_reducible rfl
            rotate_left
            · simp only [Act.put, List.setIfInBounds_toArray, List.set_cons_zero, List.set_cons_succ, i64_w, i32_w]
              rfl
            refine take_ (i := 7) (N := some 107) (v := ?_) (a' := ?_) #[true, true, true, true, true, true, true, true, false, false, false] rfl rfl (by kernel_rfl) (fun _ _ _ h => h) (Or.inl ⟨by rfl, ?_⟩) hHeld ?_ ?_
            rotate_left
            · rintro w' ⟨s0, s1, s2⟩
              go_simp
              with_reducible rfl
            rotate_left
            · simp only [Act.put, List.setIfInBounds_toArray, List.set_cons_zero, List.set_cons_succ, i64_w, i32_w]
              rfl
            refine pure_ (i := 8) (N := some 108) (v := ?_) (a' := ?_) #[true, true, true, true, true, true, true, true, true, false, false] rfl rfl (by kernel_rfl) (fun _ _ _ h => h) (Or.inl ⟨by rfl, ?_⟩) ?_ ?_
            rotate_left
            · intro w'
              go_simp
              with_reducible rfl
            rotate_left
            · simp only [Act.put, List.setIfInBounds_toArray, List.set_cons_zero, List.set_cons_succ, i64_w, i32_w]
              rfl
            refine pure_ (i := 9) (N := some 109) (v := ?_) (a' := ?_) #[true, true, true, true, true, true, true, true, true, true, false] rfl rfl (by kernel_rfl) (fun _ _ _ h => h) (Or.inl ⟨by rfl, ?_⟩) ?_ ?_
            rotate_left
            · intro w'
              go_simp
              with_reducible rfl
            rotate_left
            · simp only [Act.put, List.setIfInBounds_toArray, List.set_cons_zero, List.set_cons_succ, i64_w, i32_w]
              rfl
            refine last_ (i := 10) (N := none) #[true, true, true, true, true, true, true, true, true, true, true] rfl rfl (by kernel_rfl) (by decide) (fun K hK => ?_)
            refine skip_ (w1 := ?_) (by rfl) rfl ?_ ?_
            rotate_left
            · go_simp
              rfl
            refine hK.out _ _ ?_
            clear hK K
            refine done_ (by kernel_rfl) ?_
            have HI4 := Aside0.mk (Ph.inv ((HP4.out.then_ (below_drew (Below.refl _ w4))).setL1 HG.out (mn l1 a.n)) HKS.out rfl rfl)
            clear q0 q1 q2 z6 z6d x6 x6d hfi
            go_wp2_with fail
            rw [en]
            go_roundw
            case rel => exact ⟨n + 1, _, _, _, rt, _, _, by omega, rfl, rfl, HI4⟩
            case measure => simp [intOf]; omega
        have z2 : (z == 2) = false := by simpa using h2
        by_cases h3 : z = 3
        case pos =>
          have z3 : (z == 3) = true := by simpa using h3
          have hDD : D2 = swi (iv i) d := by rcases HS0.out with h | h | h | h; all_goals first | exact h.2 | omega
          rw [← hfi] at hDD
          subst hDD
          have HI4 := Aside0.mk (HI1.out.step HG.out HT4.out (keeps_swi HI1.out.keeps a.file) HA4.out rfl rfl)
          clear HS0 h3 h2 h1 hfi
          go_wp2_with fail
          rw [en]
          go_roundw
          case rel => exact ⟨n + 1, _, l0, l1, _, s0, s1, by omega, rfl, rfl, HI4⟩
          case measure => simp [intOf]; omega
        have z3 : (z == 3) = false := by simpa using h3
        have hDD : D2 = app i a.b d := by rcases HS0.out with h | h | h | h; all_goals first | exact h.2.2.2 | omega
        have HI4 := Aside0.mk (HI1.out.step HG.out HT4.out (keeps_app HI1.out.keeps i (by rw [← hDD]; exact HGD2.out)) (by rw [← hDD]; exact HA4.out) (sure_app i a.b d).1 (sure_app i a.b d).2)
        clear hDD HS0 hfi h1 h2 h3
        go_wp2_with fail
        rw [en]
        go_roundw
        case rel => exact ⟨n + 1, _, l0, l1, rt, s0, s1, by omega, rfl, rfl, HI4⟩
        case measure => simp [intOf]; omega
      · skip
        have t1 : decide (z > 3) = true := decide_eq_true (by omega)
        have t2 : decide (z < 7) = false := decide_eq_false (by omega)
        have HZ3 := Aside0.mk hz3
        clear hz3
        go_wp2_with fail
        refine HD.out.mono ?_
        rintro e w4 ⟨rfl, hA, hT⟩
        have HA4 := Aside0.mk hA
        have HT4 := Aside0.mk hT
        have HQ4 := Aside0.mk (blk_tn HQa.out hT HQN.out)
        clear hA hT hx0 hx1 hx2 hx3 hx4 hx5 hx6 hx7 hx8 wc0 wc1 wc2 wc3 wc4 wc5 wc6 wc7 wc8
        have q0 : w4.cell? ⟨wr.heap.size, 0, none⟩ = some (.int .u8 a.kind) := by rw [HQE.out]; exact HQ4.out.cell 0
        have q1 : w4.cell? ⟨wr.heap.size, 1, none⟩ = some (.int .i64 a.file) := by rw [HQE.out]; exact HQ4.out.cell 1
        have q2 : w4.cell? ⟨wr.heap.size, 2, none⟩ = some (.int .i64 a.n) := by rw [HQE.out]; exact HQ4.out.cell 2
        by_cases hf : a.file < 0
        · obtain ⟨hE1, hDD⟩ := sure_out HSC.out (by omega)
          have f1 : decide (a.file < 0) = true := decide_eq_true hf
          subst hE1
          have HI4 := Aside0.mk (HI1.out.step HG.out HT4.out HI1.out.keeps (by rw [← hDD]; exact HA4.out) rfl rfl)
          clear hDD hf
          go_wp2_with fail
          rw [en]
          go_roundw
          case rel => exact ⟨n + 1, d, l0, l1, rt, s0, s1, by omega, rfl, rfl, HI4⟩
          case measure => simp [intOf]; omega
        have hf0 := hf
        clear hf
        by_cases hf : 1 < a.file
        · obtain ⟨hE1, hDD⟩ := sure_out HSC.out (by omega)
          have f1 : decide (a.file < 0) = false := decide_eq_false hf0
          have f2 : decide (a.file > 1) = true := decide_eq_true hf
          subst hE1
          have HI4 := Aside0.mk (HI1.out.step HG.out HT4.out HI1.out.keeps (by rw [← hDD]; exact HA4.out) rfl rfl)
          clear hDD hf
          go_wp2_with fail
          rw [en]
          go_roundw
          case rel => exact ⟨n + 1, d, l0, l1, rt, s0, s1, by omega, rfl, rfl, HI4⟩
          case measure => simp [intOf]; omega
        have f1 : decide (a.file < 0) = false := decide_eq_false hf0
        have f2 : decide (a.file > 1) = false := decide_eq_false hf
        obtain ⟨i, hfi⟩ := file_two ⟨hf0, hf⟩
        have HSI := Aside0.mk (sure_in HSC.out HOFF.out hfi)
        clear hf0 hf HSC
        by_cases hE0 : E = 0
        case neg =>
          have hEb : (E != 0) = true := by simpa using hE0
          have hDD : D2 = d := by rcases HSI.out with h | h; exact h.2; exact absurd h.1 hE0
          have HI4 := Aside0.mk (HI1.out.step HG.out HT4.out HI1.out.keeps (by rw [← hDD]; exact HA4.out) rfl rfl)
          clear hDD hE0 HSI hfi
          go_wp2_with fail
          rw [en]
          go_roundw
          case rel => exact ⟨n + 1, d, l0, l1, rt, s0, s1, by omega, rfl, rfl, HI4⟩
          case measure => simp [intOf]; omega
        have hEb : (E != 0) = false := by simpa using hE0
        have HS0 := Aside0.mk (show _ from HSI.out.elim (fun h => absurd hE0 h.1) (fun h => h.2))
        rw [HZC.out] at HS0
        clear HSI hE0
        have z1 : (z == 1) = false := by have := HZ3.out; simp; omega
        have z2 : (z == 2) = false := by have := HZ3.out; simp; omega
        have z3 : (z == 3) = false := by have := HZ3.out; simp; omega
        have hDD : D2 = app i a.b d := by rcases HS0.out with h | h | h | h; all_goals first | exact h.2.2.2 | (have := HZ3.out; omega)
        have HI4 := Aside0.mk (HI1.out.step HG.out HT4.out (keeps_app HI1.out.keeps i (by rw [← hDD]; exact HGD2.out)) (by rw [← hDD]; exact HA4.out) (sure_app i a.b d).1 (sure_app i a.b d).2)
        clear hDD HS0 hfi
        go_wp2_with fail
        rw [en]
        go_roundw
        case rel => exact ⟨n + 1, _, l0, l1, rt, s0, s1, by omega, rfl, rfl, HI4⟩
        case measure => simp [intOf]; omega
    · obtain rfl : n = ms := by omega
      clear hlt hn
      obtain ⟨bn, hbn⟩ : ∃ bn, bn = wr.heap.size := ⟨_, rfl⟩
      have hb1 := below_alloc (Below.refl _ wr) (.cells #[.slice none 0 0, .slice none 0 0] 41)
      have hc1 : Blk.At bn #[.slice none 0 0, .slice none 0 0] 41 (wr.alloc (.cells #[.slice none 0 0, .slice none 0 0] 41)) := heap_new wr _ hbn
      obtain ⟨ok2, hok2⟩ : ∃ ok2 : Nat → Prop, ok2 = (fun k => ok k ∧ (k < wr.heap.size ∨ (wr.alloc (.cells #[.slice none 0 0, .slice none 0 0] 41)).heap.size ≤ k)) := ⟨_, rfl⟩
      obtain ⟨bad2, hbad2⟩ : ∃ bad2 : Nat → Prop, bad2 = (fun k => bad k ∨ k = bn) := ⟨_, rfl⟩
      have hlb : bl < bn := by rw [hbn]; exact HI.out.cl.lt
      have HGN := Aside0.mk (show Gn g ok2 bad2 bs bl bn from ⟨by rw [hbad2]; exact .inl HG.out.bg, by rw [hbad2]; exact .inr rfl, fun k hk => by rw [hbad2] at hk; rcases hk with h | h; (have := HG.out.only k h; omega); omega, by rw [hok2, size_alloc, ← hbn]; rintro ⟨_, h⟩; omega, HG.out.gs, HG.out.sl, hlb⟩)
      have hmore : ∀ v xs, Rw bad v xs wr → Rw bad2 v xs (wr.alloc (.cells #[.slice none 0 0, .slice none 0 0] 41)) := fun v xs h => (h.more (bad' := bad2) (fun k hk => by rw [hbad2] at hk; rcases hk with h | h; exact .inl h; exact .inr (by omega))).below hb1
      have HF := Aside0.mk (show Fi g ok2 bad2 bs bl bn w0 d l0 l1 s0 s1 (.slice none 0 0) (.slice none 0 0) d.a.sure d.b.sure (wr.alloc (.cells #[.slice none 0 0, .slice none 0 0] 41)) from ⟨⟨by rw [hok2]; exact at_skip HI.out.at_ hb1, HI.out.below.trans (hb1.mono (Nat.le_of_lt HI.out.at_.lt)), HI.out.cs.below hb1 HI.out.cs.lt, HI.out.cl.below hb1 HI.out.cl.lt, hmore _ _ HI.out.r0, hmore _ _ HI.out.r1⟩, hc1⟩)
      have HKP := Aside0.mk HI.out.keeps
      clear hmore hlb hbad2 hok2 hc1 hb1 HI
      go_wp2_with fail
      rw [← hbn]
      generalize wr.alloc (.cells #[.slice none 0 0, .slice none 0 0] 41) = wz at HF ⊢
      clear hbn
      go_loopw [116] (fun j wr => ∃ (n : Nat) (n0 n1 : Value), n ≤ 2 ∧ j = .int .i64 n ∧ Aside0 (Fi g ok2 bad2 bs bl bn w0 d l0 l1 s0 s1 n0 n1 d.a.sure d.b.sure wr) ∧ Aside0 (1 ≤ n → Rw bad2 n0 d.a.now wr) ∧ Aside0 (2 ≤ n → Rw bad2 n1 d.b.now wr)) (fun j _ => 2 - (intOf j).toNat)
      case atStart => exact ⟨0, _, _, by omega, rfl, HF, ⟨fun h => absurd h (by omega)⟩, ⟨fun h => absurd h (by omega)⟩⟩
      case round =>
        clear HF
        obtain ⟨n, n0, n1, hn, rfl, HF, HN0, HN1⟩ := hrel
        rcases (by omega : n = 2 ∨ n = 0 ∨ n = 1) with rfl | rfl | rfl
        case inr.inl =>
          have HRD := Aside0.mk (read_rw' (bad := bad2) (fun k hk => by have := HGN.out.only k hk; have := HF.out.cn.lt; omega) HF.out.ph.at_ HKP.out.good HKP.out.off false)
          rw [show iv false = 0 from rfl, show (d.fl false) = d.a from rfl] at HRD
          go_wp2_with fail
          refine HRD.out.mono ?_
          rintro e w5 ⟨A5, c5, rfl, hR, hb⟩
          have HR5 := Aside0.mk hR
          have HF5 := Aside0.mk (HF.out.then_ hb)
          clear hR hb HRD
          have z5 : w5.frozen? ⟨bn, 0, none⟩ = false := HF5.out.cn.frozen 0
          have x5 : w5.cell? ⟨bn, 0, none⟩ = some n0 := HF5.out.cn.cell 0
          go_wp2_with fail
          have HF6 := Aside0.mk (HF5.out.setN0 HGN.out (.slice A5 d.a.now.length c5))
          have HR6 := Aside0.mk (HR5.out.set HGN.out.bn_ 0 (.slice A5 d.a.now.length c5))
          go_roundw
          case rel => exact ⟨1, _, _, by omega, rfl, HF6, ⟨fun _ => HR6.out⟩, ⟨fun h => absurd h (by omega)⟩⟩
          case measure => simp [intOf]
        case inr.inr =>
          have HRD := Aside0.mk (read_rw' (bad := bad2) (fun k hk => by have := HGN.out.only k hk; have := HF.out.cn.lt; omega) HF.out.ph.at_ HKP.out.good HKP.out.off true)
          rw [show iv true = 1 from rfl, show (d.fl true) = d.b from rfl] at HRD
          go_wp2_with fail
          refine HRD.out.mono ?_
          rintro e w5 ⟨A5, c5, rfl, hR, hb⟩
          have HR5 := Aside0.mk hR
          have HF5 := Aside0.mk (HF.out.then_ hb)
          have HN5 := Aside0.mk ((HN0.out (by omega)).below hb)
          clear hR hb HRD
          have z5 : w5.frozen? ⟨bn, 1, none⟩ = false := HF5.out.cn.frozen 1
          have x5 : w5.cell? ⟨bn, 1, none⟩ = some n1 := HF5.out.cn.cell 1
          go_wp2_with fail
          have HF6 := Aside0.mk (HF5.out.setN1 HGN.out (.slice A5 d.b.now.length c5))
          have HR6 := Aside0.mk (HR5.out.set HGN.out.bn_ 1 (.slice A5 d.b.now.length c5))
          have HN6 := Aside0.mk (HN5.out.set HGN.out.bn_ 1 (.slice A5 d.b.now.length c5))
          go_roundw
          case rel => exact ⟨2, _, _, by omega, rfl, HF6, ⟨fun _ => HN6.out⟩, ⟨fun _ => HR6.out⟩⟩
          case measure => simp [intOf]
        have HNA := Aside0.mk (And.intro (HN0.out (by omega)) (HN1.out (by omega)))
        clear HN0 HN1
        go_wp2_with fail
        refine (disk_Fail.calls HF.out.ph.at_ HKP.out.good.room.pos).mono ?_
        rintro e w5 ⟨rfl, hA, hT⟩
        have HF5 := Aside0.mk (HF.out.tn HGN.out hT hA)
        have HN5 := Aside0.mk (And.intro (HNA.out.1.tn hT HGN.out.bg) (HNA.out.2.tn hT HGN.out.bg))
        clear hA hT HF HNA
        have HP5 := Aside0.mk (HP0.out.below HF5.out.ph.below HPL.out)
        have p5 : w5.cell? ⟨pl, 5, none⟩ = some (.int .i64 x0) := HP5.out.cell 5
        have p6 : w5.cell? ⟨pl, 6, none⟩ = some (.int .i64 x1) := HP5.out.cell 6
        have p7 : w5.cell? ⟨pl, 7, none⟩ = some (.bool y0) := HP5.out.cell 7
        have p8 : w5.cell? ⟨pl, 8, none⟩ = some (.bool y1) := HP5.out.cell 8
        have HGF := Aside0.mk (show Good { d with off := true, fuse := -1 } from good_fl HKP.out.good rfl rfl rfl ⟨by show (-1 : Int) ≤ -1; decide, by show (-1 : Int) < 9223372036854775808; decide⟩)
        have HST := Aside0.mk (disk_Start.all HF5.out.ph.at_ HGF.out x0 x1 y0 y1)
        rw [show startE { d with off := true, fuse := -1 } = 0 from rfl] at HST
        have HG3 := Aside0.mk (good_start HGF.out x0 x1 y0 y1)
        have HLO := Aside0.mk (And.intro (lost_is (flok HKP.out.good false) (HKP.out.lo false) x0 y0) (lost_is (flok HKP.out.good true) (HKP.out.lo true) x1 y1))
        have HD3 := Aside0.mk (show (startD x0 x1 y0 y1 { d with off := true, fuse := -1 }).off = false ∧ (startD x0 x1 y0 y1 { d with off := true, fuse := -1 }).root = d.root ∧ (startD x0 x1 y0 y1 { d with off := true, fuse := -1 }).a.now = (lost x0 y0 (d.fl false)).now ∧ (startD x0 x1 y0 y1 { d with off := true, fuse := -1 }).b.now = (lost x1 y1 (d.fl true)).now from ⟨rfl, rfl, rfl, rfl⟩)
        obtain ⟨D3, hD3⟩ : ∃ D3, D3 = startD x0 x1 y0 y1 { d with off := true, fuse := -1 } := ⟨_, rfl⟩
        rw [← hD3] at HST HG3 HD3
        clear hD3
        go_wp2_with fail
        refine HST.out.mono ?_
        rintro e w6 ⟨rfl, hA, hT⟩
        have HF6 := Aside0.mk (HF5.out.tn HGN.out hT hA)
        have HN6 := Aside0.mk (And.intro (HN5.out.1.tn hT HGN.out.bg) (HN5.out.2.tn hT HGN.out.bg))
        clear hA hT HF5 HN5 HP5 HST HGF p5 p6 p7 p8
        go_wp2_with fail
        go_loopw [138] (fun j wr => ∃ (n : Nat), n ≤ 2 ∧ j = .int .i64 n ∧ Aside0 (Fi g ok2 bad2 bs bl bn w0 D3 l0 l1 s0 s1 n0 n1 d.a.sure d.b.sure wr) ∧ Aside0 (Rw bad2 n0 d.a.now wr ∧ Rw bad2 n1 d.b.now wr)) (fun j _ => 2 - (intOf j).toNat)
        case atStart => exact ⟨0, by omega, rfl, HF6, HN6⟩
        case round =>
          clear HF6 HN6
          obtain ⟨n, hn, rfl, HF, HN⟩ := hrel
          rcases (by omega : n = 2 ∨ n = 0 ∨ n = 1) with rfl | rfl | rfl
          case inl =>
            have HRT := Aside0.mk (disk_Root.at HF.out.ph.at_ HG3.out.room.pos)
            rw [show rtV D3 = rt from by unfold rtV; rw [if_neg (by rw [HD3.out.1]; decide), HD3.out.2.1, HKP.out.root], show rdE D3 = 0 from by unfold rdE; rw [if_neg (by rw [HD3.out.1]; decide)]] at HRT
            go_wp2_with fail
            refine HRT.out.mono ?_
            rintro e w7 ⟨rfl, rfl⟩
            go_wp2_with fail
            refine (law_alive.calls _).mono ?_
            rintro e w8 ⟨rfl, hB⟩
            have HB8 := Aside0.mk (HF.out.ph.below.trans (hB.mono (Nat.le_of_lt HF.out.ph.at_.lt)))
            clear hB
            go_wp2_with fail
            go_ret
            exact ⟨rfl, FIN_.out _ HB8.out⟩
          case inr.inl =>
            have HRD := Aside0.mk (read_rw' (bad := bad2) (fun k hk => by have := HGN.out.only k hk; have := HF.out.cn.lt; omega) HF.out.ph.at_ HG3.out HD3.out.1 false)
            obtain ⟨hl1, hl2, hl3, hl4, hl5⟩ := HLO.out.1
            have hl0 := (HKP.out.lo false).1
            rw [show iv false = 0 from rfl, show (D3.fl false) = D3.a from rfl, HD3.out.2.2.1] at HRD
            rw [show lv l0 l1 false = l0 from rfl] at hl0 hl1 hl2 hl3
            rw [show d.fl false = d.a from rfl] at HRD hl1 hl2 hl3 hl4 hl5
            obtain ⟨bb, hbb⟩ : ∃ bb, bb = (lost x0 y0 d.a).now := ⟨_, rfl⟩
            rw [← hbb] at HRD hl1 hl3 hl4 hl5
            obtain ⟨sx, hsx⟩ : ∃ sx, sx = d.a.sure := ⟨_, rfl⟩
            obtain ⟨nx, hnx⟩ : ∃ nx, nx = d.a.now := ⟨_, rfl⟩
            have hRs : Rw bad2 s0 sx wr := by rw [hsx]; exact HF.out.ph.r0
            have hRn : Rw bad2 n0 nx wr := by rw [hnx]; exact HN.out.1
            rw [← hsx] at hl2 hl3 hl4
            rw [← hnx] at hl4
            obtain ⟨As, cs, es⟩ := hRs.slice
            obtain ⟨An, cn, en_⟩ := hRn.slice
            have HRS := Aside0.mk hRs
            have HRN := Aside0.mk hRn
            have HL := Aside0.mk (And.intro hl0 (And.intro hl1 (And.intro hl2 (And.intro hl3 (And.intro hl4 hl5)))))
            have HSE := Aside0.mk (And.intro es en_)
            clear hbb hsx hnx hRs hRn hl0 hl1 hl2 hl3 hl4 hl5 es en_
            go_wp2_with fail
            refine HRD.out.mono ?_
            rintro e w7 ⟨Ab, cb, rfl, hR, hb⟩
            have HF7 := Aside0.mk (HF.out.then_ hb)
            have HN7 := Aside0.mk (And.intro (HN.out.1.below hb) (HN.out.2.below hb))
            obtain ⟨hl0, hl1, hl2, hl3, hl4, hl5⟩ := HL.out
            obtain ⟨ts, hts⟩ : ∃ ts, ts = bb.take l0.toNat := ⟨_, rfl⟩
            have hR1 := rw_taken hR hl0 hl1 hts
            have hRs7 := HRS.out.below hb
            rw [HSE.out.1] at hRs7
            have hS1 := rw_taken hRs7 hl0 hl2 (hts.trans hl3)
            have HSL := Aside0.mk (And.intro hR1.1 hS1.1)
            have HCV := Aside0.mk (And.intro hR1.2 hS1.2)
            obtain ⟨S1, hS1e⟩ : ∃ S1, S1 = strOfNums ts := ⟨_, rfl⟩
            rw [← hS1e] at HCV
            have sl1 := HSL.out.1
            have sl2 := HSL.out.2
            have xl := (show w7.cell? ⟨bl, 0, none⟩ = some (.int .i64 l0) from HF7.out.ph.cl.cell 0)
            have xs := (show w7.cell? ⟨bs, 0, none⟩ = some (.slice As sx.length cs) from by rw [← HSE.out.1]; exact HF7.out.ph.cs.cell 0)
            have XS := Aside0.mk xs
            have lb : decide ((bb.length : Int) < l0) = false := decide_eq_false (by omega)
            have HRB := Aside0.mk hR
            have HB7 := Aside0.mk hb
            clear hR hb hR1 hRs7 hS1 hts hS1e hl0 hl1 hl2 hl3 hl4 hl5 HRD
            go_wp2_with fail
            refine start_ (n := 27) (S := fun w' => w'.cell? ⟨bl, 0, none⟩ = some (.int .i64 l0) ∧ w'.cell? ⟨bs, 0, none⟩ = some (.slice As sx.length cs) ∧ (convert 23 9 (.slice Ab ts.length cb)).run Try.prog w' = .ok (.string S1) w' ∧ (convert 23 9 (.slice As ts.length cs)).run Try.prog w' = .ok (.string S1) w') (ds := []) #[false, false, false, false, false, false, false, false, false, false, false, false, false, false, false, false, false, false, false, false, false, false, false, false, false, false, false] (by kernel_rfl) rfl rfl ⟨xl, xs, HCV.out.1 _ (below_drew (Below.refl _ _)), HCV.out.2 _ (below_drew (Below.refl _ _))⟩ (fun hHeld => ?_)
            refine pure_ (i := 0) (N := some 147) (v := ?_) (a' := ?_) #[true, false, false, false, false, false, false, false, false, false, false, false, false, false, false, false, false, false, false, false, false, false, false, false, false, false, false] rfl rfl (by kernel_rfl) (fun _ _ _ h => h) (Or.inl ⟨by rfl, ?_⟩) ?_ ?_
            rotate_left
            · intro w'
              go_simp
              with_reducible rfl
            rotate_left
            · simp only [Act.put, List.setIfInBounds_toArray, List.set_cons_zero, List.set_cons_succ, i64_w, i32_w]
              rfl
            refine pure_ (i := 1) (N := some 148) (v := ?_) (a' := ?_) #[true, true, false, false, false, false, false, false, false, false, false, false, false, false, false, false, false, false, false, false, false, false, false, false, false, false, false] rfl rfl (by kernel_rfl) (fun _ _ _ h => h) (Or.inl ⟨by rfl, ?_⟩) ?_ ?_
            rotate_left
            · intro w'
              go_simp
              with_reducible rfl
            rotate_left
            · simp only [Act.put, List.setIfInBounds_toArray, List.set_cons_zero, List.set_cons_succ, i64_w, i32_w]
              rfl
            refine pure_ (i := 2) (N := some 149) (v := ?_) (a' := ?_) #[true, true, true, false, false, false, false, false, false, false, false, false, false, false, false, false, false, false, false, false, false, false, false, false, false, false, false] rfl rfl (by kernel_rfl) (fun _ _ _ h => h) (Or.inl ⟨by rfl, ?_⟩) ?_ ?_
            rotate_left
            · intro w'
              go_simp
              with_reducible rfl
            rotate_left
            · simp only [Act.put, List.setIfInBounds_toArray, List.set_cons_zero, List.set_cons_succ, i64_w, i32_w]
              rfl
            refine pure_ (i := 3) (N := some 150) (v := ?_) (a' := ?_) #[true, true, true, true, false, false, false, false, false, false, false, false, false, false, false, false, false, false, false, false, false, false, false, false, false, false, false] rfl rfl (by kernel_rfl) (fun _ _ _ h => h) (Or.inl ⟨by rfl, ?_⟩) ?_ ?_
            rotate_left
            · intro w'
              go_simp
              with_reducible rfl
            rotate_left
            · simp only [Act.put, List.setIfInBounds_toArray, List.set_cons_zero, List.set_cons_succ, i64_w, i32_w]
              rfl
            refine pure_ (i := 4) (N := some 151) (v := ?_) (a' := ?_) #[true, true, true, true, true, false, false, false, false, false, false, false, false, false, false, false, false, false, false, false, false, false, false, false, false, false, false] rfl rfl (by kernel_rfl) (fun _ _ _ h => h) (Or.inl ⟨by rfl, ?_⟩) ?_ ?_
            rotate_left
            · intro w'
              go_simp
              with_reducible rfl
            rotate_left
            · simp only [Act.put, List.setIfInBounds_toArray, List.set_cons_zero, List.set_cons_succ, i64_w, i32_w]
              rfl
            refine pure_ (i := 5) (N := some 152) (v := ?_) (a' := ?_) #[true, true, true, true, true, true, false, false, false, false, false, false, false, false, false, false, false, false, false, false, false, false, false, false, false, false, false] rfl rfl (by kernel_rfl) (fun _ _ _ h => h) (Or.inl ⟨by rfl, ?_⟩) ?_ ?_
            rotate_left
            · intro w'
              go_simp
              with_reducible rfl
            rotate_left
            · simp only [Act.put, List.setIfInBounds_toArray, List.set_cons_zero, List.set_cons_succ, i64_w, i32_w]
              rfl
            refine pure_ (i := 6) (N := some 153) (v := ?_) (a' := ?_) #[true, true, true, true, true, true, true, false, false, false, false, false, false, false, false, false, false, false, false, false, false, false, false, false, false, false, false] rfl rfl (by kernel_rfl) (fun _ _ _ h => h) (Or.inl ⟨by rfl, ?_⟩) ?_ ?_
            rotate_left
            · intro w'
              go_simp
              with_reducible rfl
            rotate_left
            · simp only [Act.put, List.setIfInBounds_toArray, List.set_cons_zero, List.set_cons_succ, i64_w, i32_w]
              rfl
            refine take_ (i := 7) (N := some 154) (v := ?_) (a' := ?_) #[true, true, true, true, true, true, true, true, false, false, false, false, false, false, false, false, false, false, false, false, false, false, false, false, false, false, false] rfl rfl (by kernel_rfl) (fun _ _ _ h => h) (Or.inl ⟨by rfl, ?_⟩) hHeld ?_ ?_
            rotate_left
            · rintro w' ⟨s0, s1, s2, s3⟩
              go_simp
              with_reducible rfl
            rotate_left
            · simp only [Act.put, List.setIfInBounds_toArray, List.set_cons_zero, List.set_cons_succ, i64_w, i32_w]
              rfl
            refine pure_ (i := 8) (N := some 155) (v := ?_) (a' := ?_) #[true, true, true, true, true, true, true, true, true, false, false, false, false, false, false, false, false, false, false, false, false, false, false, false, false, false, false] rfl rfl (by kernel_rfl) (fun _ _ _ h => h) (Or.inl ⟨by rfl, ?_⟩) ?_ ?_
            rotate_left
            · intro w'
              go_simp
              with_reducible rfl
            rotate_left
            · simp only [Act.put, List.setIfInBounds_toArray, List.set_cons_zero, List.set_cons_succ, i64_w, i32_w]
              rfl
            refine pure_ (i := 9) (N := some 156) (v := ?_) (a' := ?_) #[true, true, true, true, true, true, true, true, true, true, false, false, false, false, false, false, false, false, false, false, false, false, false, false, false, false, false] rfl rfl (by kernel_rfl) (fun _ _ _ h => h) (Or.inl ⟨by rfl, ?_⟩) ?_ ?_
            rotate_left
            · intro w'
              go_simp
              with_reducible rfl
            rotate_left
            · simp only [Act.put, List.setIfInBounds_toArray, List.set_cons_zero, List.set_cons_succ, i64_w, i32_w]
              rfl
            refine pure_ (i := 10) (N := some 157) (v := ?_) (a' := ?_) #[true, true, true, true, true, true, true, true, true, true, true, false, false, false, false, false, false, false, false, false, false, false, false, false, false, false, false] rfl rfl (by kernel_rfl) (fun _ _ _ h => h) (Or.inl ⟨by rfl, ?_⟩) ?_ ?_
            rotate_left
            · intro w'
              go_simp
              with_reducible rfl
            rotate_left
            · simp only [Act.put, List.setIfInBounds_toArray, List.set_cons_zero, List.set_cons_succ, i64_w, i32_w]
              rfl
            refine pure_ (i := 11) (N := some 158) (v := ?_) (a' := ?_) #[true, true, true, true, true, true, true, true, true, true, true, true, false, false, false, false, false, false, false, false, false, false, false, false, false, false, false] rfl rfl (by kernel_rfl) (fun _ _ _ h => h) (Or.inl ⟨by rfl, ?_⟩) ?_ ?_
            rotate_left
            · intro w'
              go_simp
              with_reducible rfl
            rotate_left
            · simp only [Act.put, List.setIfInBounds_toArray, List.set_cons_zero, List.set_cons_succ, i64_w, i32_w]
              rfl
            refine pure_ (i := 12) (N := some 159) (v := ?_) (a' := ?_) #[true, true, true, true, true, true, true, true, true, true, true, true, true, false, false, false, false, false, false, false, false, false, false, false, false, false, false] rfl rfl (by kernel_rfl) (fun _ _ _ h => h) (Or.inl ⟨by rfl, ?_⟩) ?_ ?_
            rotate_left
            · intro w'
              go_simp
              with_reducible rfl
            rotate_left
            · simp only [Act.put, List.setIfInBounds_toArray, List.set_cons_zero, List.set_cons_succ, i64_w, i32_w]
              rfl
            refine pure_ (i := 13) (N := some 160) (v := ?_) (a' := ?_) #[true, true, true, true, true, true, true, true, true, true, true, true, true, true, false, false, false, false, false, false, false, false, false, false, false, false, false] rfl rfl (by kernel_rfl) (fun _ _ _ h => h) (Or.inl ⟨by rfl, ?_⟩) ?_ ?_
            rotate_left
            · intro w'
              go_simp
              with_reducible rfl
            rotate_left
            · simp only [Act.put, List.setIfInBounds_toArray, List.set_cons_zero, List.set_cons_succ, i64_w, i32_w]
              rfl
            refine pure_ (i := 17) (N := some 164) (v := ?_) (a' := ?_) #[true, true, true, true, true, true, true, true, true, true, true, true, true, true, false, false, false, true, false, false, false, false, false, false, false, false, false] rfl rfl (by kernel_rfl) (fun _ _ _ h => h) (Or.inl ⟨by rfl, ?_⟩) ?_ ?_
            rotate_left
            · intro w'
              go_simp
              with_reducible rfl
            rotate_left
            · simp only [Act.put, List.setIfInBounds_toArray, List.set_cons_zero, List.set_cons_succ, i64_w, i32_w]
              rfl
            refine pure_ (i := 18) (N := some 165) (v := ?_) (a' := ?_) #[true, true, true, true, true, true, true, true, true, true, true, true, true, true, false, false, false, true, true, false, false, false, false, false, false, false, false] rfl rfl (by kernel_rfl) (fun _ _ _ h => h) (Or.inl ⟨by rfl, ?_⟩) ?_ ?_
            rotate_left
            · intro w'
              go_simp
              with_reducible rfl
            rotate_left
            · simp only [Act.put, List.setIfInBounds_toArray, List.set_cons_zero, List.set_cons_succ, i64_w, i32_w]
              rfl
            refine pure_ (i := 20) (N := some 167) (v := ?_) (a' := ?_) #[true, true, true, true, true, true, true, true, true, true, true, true, true, true, false, false, false, true, true, false, true, false, false, false, false, false, false] rfl rfl (by kernel_rfl) (fun _ _ _ h => h) (Or.inl ⟨by rfl, ?_⟩) ?_ ?_
            rotate_left
            · intro w'
              go_simp
              with_reducible rfl
            rotate_left
            · simp only [Act.put, List.setIfInBounds_toArray, List.set_cons_zero, List.set_cons_succ, i64_w, i32_w]
              rfl
            refine pure_ (i := 21) (N := some 168) (v := ?_) (a' := ?_) #[true, true, true, true, true, true, true, true, true, true, true, true, true, true, false, false, false, true, true, false, true, true, false, false, false, false, false] rfl rfl (by kernel_rfl) (fun _ _ _ h => h) (Or.inl ⟨by rfl, ?_⟩) ?_ ?_
            rotate_left
            · intro w'
              go_simp
              with_reducible rfl
            rotate_left
            · simp only [Act.put, List.setIfInBounds_toArray, List.set_cons_zero, List.set_cons_succ, i64_w, i32_w]
              rfl
            refine take_ (i := 14) (N := some 161) (v := ?_) (a' := ?_) #[true, true, true, true, true, true, true, true, true, true, true, true, true, true, true, false, false, true, true, false, true, true, false, false, false, false, false] rfl rfl (by kernel_rfl) (fun _ _ _ h => h) (Or.inl ⟨by rfl, ?_⟩) hHeld ?_ ?_
            rotate_left
            · rintro w' ⟨s0, s1, s2, s3⟩
              go_simp
              with_reducible rfl
            rotate_left
            · simp only [Act.put, List.setIfInBounds_toArray, List.set_cons_zero, List.set_cons_succ, i64_w, i32_w]
              rfl
            refine pure_ (i := 15) (N := some 162) (v := ?_) (a' := ?_) #[true, true, true, true, true, true, true, true, true, true, true, true, true, true, true, true, false, true, true, false, true, true, false, false, false, false, false] rfl rfl (by kernel_rfl) (fun _ _ _ h => h) (Or.inl ⟨by rfl, ?_⟩) ?_ ?_
            rotate_left
            · intro w'
              go_simp
              with_reducible rfl
            rotate_left
            · simp only [Act.put, List.setIfInBounds_toArray, List.set_cons_zero, List.set_cons_succ, i64_w, i32_w]
              rfl
            refine take_ (i := 16) (N := some 163) (v := ?_) (a' := ?_) #[true, true, true, true, true, true, true, true, true, true, true, true, true, true, true, true, true, true, true, false, true, true, false, false, false, false, false] rfl rfl (by kernel_rfl) (fun _ _ _ h => h) (Or.inl ⟨by rfl, ?_⟩) hHeld ?_ ?_
            rotate_left
            · rintro w' ⟨s0, s1, s2, s3⟩
              go_simp
              with_reducible rfl
            rotate_left
            · simp only [Act.put, List.setIfInBounds_toArray, List.set_cons_zero, List.set_cons_succ, i64_w, i32_w]
              rfl
            refine take_ (i := 19) (N := some 166) (v := ?_) (a' := ?_) #[true, true, true, true, true, true, true, true, true, true, true, true, true, true, true, true, true, true, true, true, true, true, false, false, false, false, false] rfl rfl (by kernel_rfl) (fun _ _ _ h => h) (Or.inl ⟨by rfl, ?_⟩) hHeld ?_ ?_
            rotate_left
            · rintro w' ⟨s0, s1, s2, s3⟩
              go_simp
              with_reducible rfl
            rotate_left
            · simp only [Act.put, List.setIfInBounds_toArray, List.set_cons_zero, List.set_cons_succ, i64_w, i32_w]
              rfl
            refine take_ (i := 22) (N := some 169) (v := ?_) (a' := ?_) #[true, true, true, true, true, true, true, true, true, true, true, true, true, true, true, true, true, true, true, true, true, true, true, false, false, false, false] rfl rfl (by kernel_rfl) (fun _ _ _ h => h) (Or.inl ⟨by rfl, ?_⟩) hHeld ?_ ?_
            rotate_left
            · rintro w' ⟨s0, s1, s2, s3⟩
              go_simp
              with_reducible rfl
            rotate_left
            · simp only [Act.put, List.setIfInBounds_toArray, List.set_cons_zero, List.set_cons_succ, i64_w, i32_w]
              rfl
            refine pure_ (i := 23) (N := some 170) (v := ?_) (a' := ?_) #[true, true, true, true, true, true, true, true, true, true, true, true, true, true, true, true, true, true, true, true, true, true, true, true, false, false, false] rfl rfl (by kernel_rfl) (fun _ _ _ h => h) (Or.inl ⟨by rfl, ?_⟩) ?_ ?_
            rotate_left
            · intro w'
              go_simp
              with_reducible rfl
            rotate_left
            · simp only [Act.put, List.setIfInBounds_toArray, List.set_cons_zero, List.set_cons_succ, i64_w, i32_w]
              rfl
            refine take_ (i := 24) (N := some 171) (v := ?_) (a' := ?_) #[true, true, true, true, true, true, true, true, true, true, true, true, true, true, true, true, true, true, true, true, true, true, true, true, true, false, false] rfl rfl (by kernel_rfl) (fun _ _ _ h => h) (Or.inl ⟨by rfl, ?_⟩) hHeld ?_ ?_
            rotate_left
            · rintro w' ⟨s0, s1, s2, s3⟩
              go_simp
              with_reducible rfl
            rotate_left
            · simp only [Act.put, List.setIfInBounds_toArray, List.set_cons_zero, List.set_cons_succ, i64_w, i32_w]
              rfl
            refine pure_ (i := 25) (N := some 172) (v := ?_) (a' := ?_) #[true, true, true, true, true, true, true, true, true, true, true, true, true, true, true, true, true, true, true, true, true, true, true, true, true, true, false] rfl rfl (by kernel_rfl) (fun _ _ _ h => h) (Or.inl ⟨by rfl, ?_⟩) ?_ ?_
            rotate_left
            · intro w'
              go_simp
              with_reducible rfl
            rotate_left
            · simp only [Act.put, List.setIfInBounds_toArray, List.set_cons_zero, List.set_cons_succ, i64_w, i32_w]
              rfl
            refine pure_ (i := 26) (N := some 173) (v := ?_) (a' := ?_) #[true, true, true, true, true, true, true, true, true, true, true, true, true, true, true, true, true, true, true, true, true, true, true, true, true, true, true] rfl rfl (by kernel_rfl) (fun _ _ _ h => h) (Or.inl ⟨by rfl, ?_⟩) ?_ ?_
            rotate_left
            · intro w'
              go_simp
              with_reducible rfl
            rotate_left
            · simp only [Act.put, List.setIfInBounds_toArray, List.set_cons_zero, List.set_cons_succ, i64_w, i32_w]
              rfl
            refine done_ (by kernel_rfl) ?_
            clear sl1 sl2 xl xs lb
            obtain ⟨Sb, hSb⟩ : ∃ Sb, Sb = strOfNums bb := ⟨_, rfl⟩
            obtain ⟨Ss, hSs⟩ : ∃ Ss, Ss = strOfNums sx := ⟨_, rfl⟩
            have cvb : ∀ W, Below w7.heap.size w7 W → (convert 23 9 (.slice Ab bb.length cb)).run Try.prog W = .ok (.string Sb) W := fun W h => by rw [hSb]; exact (HRB.out.below h).str
            have cvs : ∀ W, Below w7.heap.size w7 W → (convert 23 9 (.slice As sx.length cs)).run Try.prog W = .ok (.string Ss) W := fun W h => by rw [hSs, ← HSE.out.1]; exact ((HRS.out.below HB7.out).below h).str
            have CVB := Aside0.mk cvb
            have CVS := Aside0.mk cvs
            have hd2 := below_drew (below_drew (Below.refl w7.heap.size w7))
            have HF8 := Aside0.mk (HF7.out.then_ hd2)
            have HN8 := Aside0.mk (And.intro (HN7.out.1.below hd2) (HN7.out.2.below hd2))
            have HDD := Aside0.mk hd2
            have HSB := Aside0.mk hSb
            have HSS := Aside0.mk hSs
            have xs8 := (show w7.drew.cell? ⟨bs, 0, none⟩ = some (.slice As sx.length cs) from XS.out)
            clear cvb cvs hd2 hSb hSs
            by_cases hs : Sb = Ss
            case pos =>
              subst hs
              go_wp2_with fail
              refine start_ (n := 28) (S := fun w' => w'.cell? ⟨bs, 0, none⟩ = some (.slice As sx.length cs) ∧ (convert 23 9 (.slice Ab bb.length cb)).run Try.prog w' = .ok (.string Sb) w' ∧ (convert 23 9 (.slice As sx.length cs)).run Try.prog w' = .ok (.string Sb) w') (ds := []) #[false, false, false, false, false, false, false, false, false, false, false, false, false, false, false, false, false, false, false, false, false, false, false, false, false, false, false, false] (by kernel_rfl) rfl rfl ⟨xs8, CVB.out _ HDD.out, CVS.out _ HDD.out⟩ (fun hHeld => ?_)
              refine pure_ (i := 0) (N := some 174) (v := ?_) (a' := ?_) #[true, false, false, false, false, false, false, false, false, false, false, false, false, false, false, false, false, false, false, false, false, false, false, false, false, false, false, false] rfl rfl (by kernel_rfl) (fun _ _ _ h => h) (Or.inl ⟨by rfl, ?_⟩) ?_ ?_
              rotate_left
              · intro w'
                go_simp
                with_reducible rfl
              rotate_left
              · simp only [Act.put, List.setIfInBounds_toArray, List.set_cons_zero, List.set_cons_succ, i64_w, i32_w]
                rfl
              refine pure_ (i := 2) (N := some 176) (v := ?_) (a' := ?_) #[true, false, true, false, false, false, false, false, false, false, false, false, false, false, false, false, false, false, false, false, false, false, false, false, false, false, false, false] rfl rfl (by kernel_rfl) (fun _ _ _ h => h) (Or.inl ⟨by rfl, ?_⟩) ?_ ?_
              rotate_left
              · intro w'
                go_simp
                with_reducible rfl
              rotate_left
              · simp only [Act.put, List.setIfInBounds_toArray, List.set_cons_zero, List.set_cons_succ, i64_w, i32_w]
                rfl
              refine pure_ (i := 3) (N := some 177) (v := ?_) (a' := ?_) #[true, false, true, true, false, false, false, false, false, false, false, false, false, false, false, false, false, false, false, false, false, false, false, false, false, false, false, false] rfl rfl (by kernel_rfl) (fun _ _ _ h => h) (Or.inl ⟨by rfl, ?_⟩) ?_ ?_
              rotate_left
              · intro w'
                go_simp
                with_reducible rfl
              rotate_left
              · simp only [Act.put, List.setIfInBounds_toArray, List.set_cons_zero, List.set_cons_succ, i64_w, i32_w]
                rfl
              refine take_ (i := 1) (N := some 175) (v := ?_) (a' := ?_) #[true, true, true, true, false, false, false, false, false, false, false, false, false, false, false, false, false, false, false, false, false, false, false, false, false, false, false, false] rfl rfl (by kernel_rfl) (fun _ _ _ h => h) (Or.inl ⟨by rfl, ?_⟩) hHeld ?_ ?_
              rotate_left
              · rintro w' ⟨s0, s1, s2⟩
                go_simp
                with_reducible rfl
              rotate_left
              · simp only [Act.put, List.setIfInBounds_toArray, List.set_cons_zero, List.set_cons_succ, i64_w, i32_w]
                rfl
              refine take_ (i := 4) (N := some 178) (v := ?_) (a' := ?_) #[true, true, true, true, true, false, false, false, false, false, false, false, false, false, false, false, false, false, false, false, false, false, false, false, false, false, false, false] rfl rfl (by kernel_rfl) (fun _ _ _ h => h) (Or.inl ⟨by rfl, ?_⟩) hHeld ?_ ?_
              rotate_left
              · rintro w' ⟨s0, s1, s2⟩
                go_simp
                with_reducible rfl
              rotate_left
              · simp only [Act.put, List.setIfInBounds_toArray, List.set_cons_zero, List.set_cons_succ, i64_w, i32_w]
                rfl
              refine take_ (i := 5) (N := some 179) (v := ?_) (a' := ?_) #[true, true, true, true, true, true, false, false, false, false, false, false, false, false, false, false, false, false, false, false, false, false, false, false, false, false, false, false] rfl rfl (by kernel_rfl) (fun _ _ _ h => h) (Or.inl ⟨by rfl, ?_⟩) hHeld ?_ ?_
              rotate_left
              · rintro w' ⟨s0, s1, s2⟩
                go_simp
                with_reducible rfl
              rotate_left
              · simp only [Act.put, List.setIfInBounds_toArray, List.set_cons_zero, List.set_cons_succ, i64_w, i32_w]
                rfl
              refine pure_ (i := 6) (N := some 180) (v := ?_) (a' := ?_) #[true, true, true, true, true, true, true, false, false, false, false, false, false, false, false, false, false, false, false, false, false, false, false, false, false, false, false, false] rfl rfl (by kernel_rfl) (fun _ _ _ h => h) (Or.inl ⟨by rfl, ?_⟩) ?_ ?_
              rotate_left
              · intro w'
                go_simp
                with_reducible rfl
              rotate_left
              · simp only [Act.put, List.setIfInBounds_toArray, List.set_cons_zero, List.set_cons_succ, i64_w, i32_w]
                rfl
              refine pure_ (i := 7) (N := some 181) (v := ?_) (a' := ?_) #[true, true, true, true, true, true, true, true, false, false, false, false, false, false, false, false, false, false, false, false, false, false, false, false, false, false, false, false] rfl rfl (by kernel_rfl) (fun _ _ _ h => h) (Or.inl ⟨by rfl, ?_⟩) ?_ ?_
              rotate_left
              · intro w'
                go_simp
                with_reducible rfl
              rotate_left
              · simp only [Act.put, List.setIfInBounds_toArray, List.set_cons_zero, List.set_cons_succ, i64_w, i32_w]
                rfl
              refine pure_ (i := 8) (N := some 182) (v := undef) (a' := ?_) #[true, true, true, true, true, true, true, true, true, false, false, false, false, false, false, false, false, false, false, false, false, false, false, false, false, false, false, false] rfl rfl (by kernel_rfl) (fun _ _ _ h => h) (Or.inr ⟨by rfl, rfl⟩) ?_ ?_
              rotate_left
              · simp only [Act.put, List.setIfInBounds_toArray, List.set_cons_zero, List.set_cons_succ, i64_w, i32_w]
                rfl
              refine pure_ (i := 9) (N := some 183) (v := undef) (a' := ?_) #[true, true, true, true, true, true, true, true, true, true, false, false, false, false, false, false, false, false, false, false, false, false, false, false, false, false, false, false] rfl rfl (by kernel_rfl) (fun _ _ _ h => h) (Or.inr ⟨by rfl, rfl⟩) ?_ ?_
              rotate_left
              · simp only [Act.put, List.setIfInBounds_toArray, List.set_cons_zero, List.set_cons_succ, i64_w, i32_w]
                rfl
              refine pure_ (i := 10) (N := some 184) (v := undef) (a' := ?_) #[true, true, true, true, true, true, true, true, true, true, true, false, false, false, false, false, false, false, false, false, false, false, false, false, false, false, false, false] rfl rfl (by kernel_rfl) (fun _ _ _ h => h) (Or.inr ⟨by rfl, rfl⟩) ?_ ?_
              rotate_left
              · simp only [Act.put, List.setIfInBounds_toArray, List.set_cons_zero, List.set_cons_succ, i64_w, i32_w]
                rfl
              refine pure_ (i := 11) (N := some 185) (v := undef) (a' := ?_) #[true, true, true, true, true, true, true, true, true, true, true, true, false, false, false, false, false, false, false, false, false, false, false, false, false, false, false, false] rfl rfl (by kernel_rfl) (fun _ _ _ h => h) (Or.inr ⟨by rfl, rfl⟩) ?_ ?_
              rotate_left
              · simp only [Act.put, List.setIfInBounds_toArray, List.set_cons_zero, List.set_cons_succ, i64_w, i32_w]
                rfl
              refine pure_ (i := 12) (N := some 186) (v := undef) (a' := ?_) #[true, true, true, true, true, true, true, true, true, true, true, true, true, false, false, false, false, false, false, false, false, false, false, false, false, false, false, false] rfl rfl (by kernel_rfl) (fun _ _ _ h => h) (Or.inr ⟨by rfl, rfl⟩) ?_ ?_
              rotate_left
              · simp only [Act.put, List.setIfInBounds_toArray, List.set_cons_zero, List.set_cons_succ, i64_w, i32_w]
                rfl
              refine pure_ (i := 13) (N := some 187) (v := undef) (a' := ?_) #[true, true, true, true, true, true, true, true, true, true, true, true, true, true, false, false, false, false, false, false, false, false, false, false, false, false, false, false] rfl rfl (by kernel_rfl) (fun _ _ _ h => h) (Or.inr ⟨by rfl, rfl⟩) ?_ ?_
              rotate_left
              · simp only [Act.put, List.setIfInBounds_toArray, List.set_cons_zero, List.set_cons_succ, i64_w, i32_w]
                rfl
              refine pure_ (i := 14) (N := some 188) (v := undef) (a' := ?_) #[true, true, true, true, true, true, true, true, true, true, true, true, true, true, true, false, false, false, false, false, false, false, false, false, false, false, false, false] rfl rfl (by kernel_rfl) (fun _ _ _ h => h) (Or.inr ⟨by rfl, rfl⟩) ?_ ?_
              rotate_left
              · simp only [Act.put, List.setIfInBounds_toArray, List.set_cons_zero, List.set_cons_succ, i64_w, i32_w]
                rfl
              refine pure_ (i := 15) (N := some 189) (v := undef) (a' := ?_) #[true, true, true, true, true, true, true, true, true, true, true, true, true, true, true, true, false, false, false, false, false, false, false, false, false, false, false, false] rfl rfl (by kernel_rfl) (fun _ _ _ h => h) (Or.inr ⟨by rfl, rfl⟩) ?_ ?_
              rotate_left
              · simp only [Act.put, List.setIfInBounds_toArray, List.set_cons_zero, List.set_cons_succ, i64_w, i32_w]
                rfl
              refine pure_ (i := 16) (N := some 190) (v := undef) (a' := ?_) #[true, true, true, true, true, true, true, true, true, true, true, true, true, true, true, true, true, false, false, false, false, false, false, false, false, false, false, false] rfl rfl (by kernel_rfl) (fun _ _ _ h => h) (Or.inr ⟨by rfl, rfl⟩) ?_ ?_
              rotate_left
              · simp only [Act.put, List.setIfInBounds_toArray, List.set_cons_zero, List.set_cons_succ, i64_w, i32_w]
                rfl
              refine pure_ (i := 17) (N := some 191) (v := undef) (a' := ?_) #[true, true, true, true, true, true, true, true, true, true, true, true, true, true, true, true, true, true, false, false, false, false, false, false, false, false, false, false] rfl rfl (by kernel_rfl) (fun _ _ _ h => h) (Or.inr ⟨by rfl, rfl⟩) ?_ ?_
              rotate_left
              · simp only [Act.put, List.setIfInBounds_toArray, List.set_cons_zero, List.set_cons_succ, i64_w, i32_w]
                rfl
              refine pure_ (i := 18) (N := some 192) (v := undef) (a' := ?_) #[true, true, true, true, true, true, true, true, true, true, true, true, true, true, true, true, true, true, true, false, false, false, false, false, false, false, false, false] rfl rfl (by kernel_rfl) (fun _ _ _ h => h) (Or.inr ⟨by rfl, rfl⟩) ?_ ?_
              rotate_left
              · simp only [Act.put, List.setIfInBounds_toArray, List.set_cons_zero, List.set_cons_succ, i64_w, i32_w]
                rfl
              refine pure_ (i := 19) (N := some 193) (v := undef) (a' := ?_) #[true, true, true, true, true, true, true, true, true, true, true, true, true, true, true, true, true, true, true, true, false, false, false, false, false, false, false, false] rfl rfl (by kernel_rfl) (fun _ _ _ h => h) (Or.inr ⟨by rfl, rfl⟩) ?_ ?_
              rotate_left
              · simp only [Act.put, List.setIfInBounds_toArray, List.set_cons_zero, List.set_cons_succ, i64_w, i32_w]
                rfl
              refine pure_ (i := 20) (N := some 194) (v := undef) (a' := ?_) #[true, true, true, true, true, true, true, true, true, true, true, true, true, true, true, true, true, true, true, true, true, false, false, false, false, false, false, false] rfl rfl (by kernel_rfl) (fun _ _ _ h => h) (Or.inr ⟨by rfl, rfl⟩) ?_ ?_
              rotate_left
              · simp only [Act.put, List.setIfInBounds_toArray, List.set_cons_zero, List.set_cons_succ, i64_w, i32_w]
                rfl
              refine pure_ (i := 21) (N := some 195) (v := undef) (a' := ?_) #[true, true, true, true, true, true, true, true, true, true, true, true, true, true, true, true, true, true, true, true, true, true, false, false, false, false, false, false] rfl rfl (by kernel_rfl) (fun _ _ _ h => h) (Or.inr ⟨by rfl, rfl⟩) ?_ ?_
              rotate_left
              · simp only [Act.put, List.setIfInBounds_toArray, List.set_cons_zero, List.set_cons_succ, i64_w, i32_w]
                rfl
              refine pure_ (i := 22) (N := some 196) (v := undef) (a' := ?_) #[true, true, true, true, true, true, true, true, true, true, true, true, true, true, true, true, true, true, true, true, true, true, true, false, false, false, false, false] rfl rfl (by kernel_rfl) (fun _ _ _ h => h) (Or.inr ⟨by rfl, rfl⟩) ?_ ?_
              rotate_left
              · simp only [Act.put, List.setIfInBounds_toArray, List.set_cons_zero, List.set_cons_succ, i64_w, i32_w]
                rfl
              refine pure_ (i := 23) (N := some 197) (v := undef) (a' := ?_) #[true, true, true, true, true, true, true, true, true, true, true, true, true, true, true, true, true, true, true, true, true, true, true, true, false, false, false, false] rfl rfl (by kernel_rfl) (fun _ _ _ h => h) (Or.inr ⟨by rfl, rfl⟩) ?_ ?_
              rotate_left
              · simp only [Act.put, List.setIfInBounds_toArray, List.set_cons_zero, List.set_cons_succ, i64_w, i32_w]
                rfl
              refine pure_ (i := 24) (N := some 198) (v := undef) (a' := ?_) #[true, true, true, true, true, true, true, true, true, true, true, true, true, true, true, true, true, true, true, true, true, true, true, true, true, false, false, false] rfl rfl (by kernel_rfl) (fun _ _ _ h => h) (Or.inr ⟨by rfl, rfl⟩) ?_ ?_
              rotate_left
              · simp only [Act.put, List.setIfInBounds_toArray, List.set_cons_zero, List.set_cons_succ, i64_w, i32_w]
                rfl
              refine pure_ (i := 25) (N := some 199) (v := undef) (a' := ?_) #[true, true, true, true, true, true, true, true, true, true, true, true, true, true, true, true, true, true, true, true, true, true, true, true, true, true, false, false] rfl rfl (by kernel_rfl) (fun _ _ _ h => h) (Or.inr ⟨by rfl, rfl⟩) ?_ ?_
              rotate_left
              · simp only [Act.put, List.setIfInBounds_toArray, List.set_cons_zero, List.set_cons_succ, i64_w, i32_w]
                rfl
              refine pure_ (i := 26) (N := some 200) (v := undef) (a' := ?_) #[true, true, true, true, true, true, true, true, true, true, true, true, true, true, true, true, true, true, true, true, true, true, true, true, true, true, true, false] rfl rfl (by kernel_rfl) (fun _ _ _ h => h) (Or.inr ⟨by rfl, rfl⟩) ?_ ?_
              rotate_left
              · simp only [Act.put, List.setIfInBounds_toArray, List.set_cons_zero, List.set_cons_succ, i64_w, i32_w]
                rfl
              refine pure_ (i := 27) (N := some 201) (v := ?_) (a' := ?_) #[true, true, true, true, true, true, true, true, true, true, true, true, true, true, true, true, true, true, true, true, true, true, true, true, true, true, true, true] rfl rfl (by kernel_rfl) (fun _ _ _ h => h) (Or.inl ⟨by rfl, ?_⟩) ?_ ?_
              rotate_left
              · intro w'
                go_simp
                with_reducible rfl
              rotate_left
              · simp only [Act.put, List.setIfInBounds_toArray, List.set_cons_zero, List.set_cons_succ, i64_w, i32_w]
                rfl
              refine done_ (by kernel_rfl) ?_
              go_wp2_with fail
              go_roundw
              case rel => exact ⟨1, by omega, rfl, HF8, HN8⟩
              case measure => simp [intOf]
            have hpre : bb <+: nx := by
              rcases HL.out.2.2.2.2.1 with h | h
              · exact absurd (by rw [HSB.out, HSS.out, h]) hs
              · exact h
            have hRn7 := HRN.out.below HB7.out
            rw [HSE.out.2] at hRn7
            have hnt := rw_taken hRn7 (n := (bb.length : Int)) (ts := bb) (Int.natCast_nonneg _) (by have := hpre.length_le; omega) (by rw [Int.toNat_natCast]; exact (List.prefix_iff_eq_take.1 hpre))
            have sl3 := hnt.1
            have cvn : ∀ W, Below w7.heap.size w7 W → (convert 23 9 (.slice An bb.length cn)).run Try.prog W = .ok (.string Sb) W := fun W h => by rw [HSB.out]; exact hnt.2 W h
            have CVN := Aside0.mk cvn
            have xn8 := (show w7.drew.cell? ⟨bn, 0, none⟩ = some (.slice An nx.length cn) from by rw [← HSE.out.2]; exact HF7.out.cn.cell 0)
            have lg : decide ((bb.length : Int) > (nx.length : Int)) = false := decide_eq_false (by have := hpre.length_le; omega)
            have lg2 : decide (nx.length < bb.length) = false := decide_eq_false (by have := hpre.length_le; omega)
            have lg3 : ¬ nx.length < bb.length := by have := hpre.length_le; omega
            have hs0 : ¬ Sb.toList = Ss.toList := fun h => hs (toList_inj h)
            have hs1 : (Sb.toList == Ss.toList) = false := by simpa using hs0
            have hs2 : (Sb.toList != Ss.toList) = true := by simpa using hs0
            have hs3 : decide (Sb.toList = Ss.toList) = false := decide_eq_false hs0
            clear hpre hRn7 hnt cvn
            go_wp2_with fail
            refine start_ (n := 28) (S := fun w' => w'.cell? ⟨bs, 0, none⟩ = some (.slice As sx.length cs) ∧ (convert 23 9 (.slice Ab bb.length cb)).run Try.prog w' = .ok (.string Sb) w' ∧ (convert 23 9 (.slice As sx.length cs)).run Try.prog w' = .ok (.string Ss) w' ∧ w'.cell? ⟨bn, 0, none⟩ = some (.slice An nx.length cn) ∧ (convert 23 9 (.slice An bb.length cn)).run Try.prog w' = .ok (.string Sb) w') (ds := []) #[false, false, false, false, false, false, false, false, false, false, false, false, false, false, false, false, false, false, false, false, false, false, false, false, false, false, false, false] (by kernel_rfl) rfl rfl ⟨xs8, CVB.out _ HDD.out, CVS.out _ HDD.out, xn8, CVN.out _ HDD.out⟩ (fun hHeld => ?_)
            refine pure_ (i := 0) (N := some 174) (v := ?_) (a' := ?_) #[true, false, false, false, false, false, false, false, false, false, false, false, false, false, false, false, false, false, false, false, false, false, false, false, false, false, false, false] rfl rfl (by kernel_rfl) (fun _ _ _ h => h) (Or.inl ⟨by rfl, ?_⟩) ?_ ?_
            rotate_left
            · intro w'
              go_simp
              with_reducible rfl
            rotate_left
            · simp only [Act.put, List.setIfInBounds_toArray, List.set_cons_zero, List.set_cons_succ, i64_w, i32_w]
              rfl
            refine pure_ (i := 2) (N := some 176) (v := ?_) (a' := ?_) #[true, false, true, false, false, false, false, false, false, false, false, false, false, false, false, false, false, false, false, false, false, false, false, false, false, false, false, false] rfl rfl (by kernel_rfl) (fun _ _ _ h => h) (Or.inl ⟨by rfl, ?_⟩) ?_ ?_
            rotate_left
            · intro w'
              go_simp
              with_reducible rfl
            rotate_left
            · simp only [Act.put, List.setIfInBounds_toArray, List.set_cons_zero, List.set_cons_succ, i64_w, i32_w]
              rfl
            refine pure_ (i := 3) (N := some 177) (v := ?_) (a' := ?_) #[true, false, true, true, false, false, false, false, false, false, false, false, false, false, false, false, false, false, false, false, false, false, false, false, false, false, false, false] rfl rfl (by kernel_rfl) (fun _ _ _ h => h) (Or.inl ⟨by rfl, ?_⟩) ?_ ?_
            rotate_left
            · intro w'
              go_simp
              with_reducible rfl
            rotate_left
            · simp only [Act.put, List.setIfInBounds_toArray, List.set_cons_zero, List.set_cons_succ, i64_w, i32_w]
              rfl
            refine take_ (i := 1) (N := some 175) (v := ?_) (a' := ?_) #[true, true, true, true, false, false, false, false, false, false, false, false, false, false, false, false, false, false, false, false, false, false, false, false, false, false, false, false] rfl rfl (by kernel_rfl) (fun _ _ _ h => h) (Or.inl ⟨by rfl, ?_⟩) hHeld ?_ ?_
            rotate_left
            · rintro w' ⟨s0, s1, s2, s3, s4⟩
              go_simp
              with_reducible rfl
            rotate_left
            · simp only [Act.put, List.setIfInBounds_toArray, List.set_cons_zero, List.set_cons_succ, i64_w, i32_w]
              rfl
            refine take_ (i := 4) (N := some 178) (v := ?_) (a' := ?_) #[true, true, true, true, true, false, false, false, false, false, false, false, false, false, false, false, false, false, false, false, false, false, false, false, false, false, false, false] rfl rfl (by kernel_rfl) (fun _ _ _ h => h) (Or.inl ⟨by rfl, ?_⟩) hHeld ?_ ?_
            rotate_left
            · rintro w' ⟨s0, s1, s2, s3, s4⟩
              go_simp
              with_reducible rfl
            rotate_left
            · simp only [Act.put, List.setIfInBounds_toArray, List.set_cons_zero, List.set_cons_succ, i64_w, i32_w]
              rfl
            refine take_ (i := 5) (N := some 179) (v := ?_) (a' := ?_) #[true, true, true, true, true, true, false, false, false, false, false, false, false, false, false, false, false, false, false, false, false, false, false, false, false, false, false, false] rfl rfl (by kernel_rfl) (fun _ _ _ h => h) (Or.inl ⟨by rfl, ?_⟩) hHeld ?_ ?_
            rotate_left
            · rintro w' ⟨s0, s1, s2, s3, s4⟩
              go_simp
              with_reducible rfl
            rotate_left
            · simp only [Act.put, List.setIfInBounds_toArray, List.set_cons_zero, List.set_cons_succ, i64_w, i32_w]
              rfl
            refine pure_ (i := 6) (N := some 180) (v := ?_) (a' := ?_) #[true, true, true, true, true, true, true, false, false, false, false, false, false, false, false, false, false, false, false, false, false, false, false, false, false, false, false, false] rfl rfl (by kernel_rfl) (fun _ _ _ h => h) (Or.inl ⟨by rfl, ?_⟩) ?_ ?_
            rotate_left
            · intro w'
              go_simp
              with_reducible rfl
            rotate_left
            · simp only [Act.put, List.setIfInBounds_toArray, List.set_cons_zero, List.set_cons_succ, i64_w, i32_w]
              rfl
            refine pure_ (i := 7) (N := some 181) (v := ?_) (a' := ?_) #[true, true, true, true, true, true, true, true, false, false, false, false, false, false, false, false, false, false, false, false, false, false, false, false, false, false, false, false] rfl rfl (by kernel_rfl) (fun _ _ _ h => h) (Or.inl ⟨by rfl, ?_⟩) ?_ ?_
            rotate_left
            · intro w'
              go_simp
              with_reducible rfl
            rotate_left
            · simp only [Act.put, List.setIfInBounds_toArray, List.set_cons_zero, List.set_cons_succ, i64_w, i32_w]
              rfl
            refine pure_ (i := 8) (N := some 182) (v := ?_) (a' := ?_) #[true, true, true, true, true, true, true, true, true, false, false, false, false, false, false, false, false, false, false, false, false, false, false, false, false, false, false, false] rfl rfl (by kernel_rfl) (fun _ _ _ h => h) (Or.inl ⟨by rfl, ?_⟩) ?_ ?_
            rotate_left
            · intro w'
              go_simp
              with_reducible rfl
            rotate_left
            · simp only [Act.put, List.setIfInBounds_toArray, List.set_cons_zero, List.set_cons_succ, i64_w, i32_w]
              rfl
            refine pure_ (i := 9) (N := some 183) (v := ?_) (a' := ?_) #[true, true, true, true, true, true, true, true, true, true, false, false, false, false, false, false, false, false, false, false, false, false, false, false, false, false, false, false] rfl rfl (by kernel_rfl) (fun _ _ _ h => h) (Or.inl ⟨by rfl, ?_⟩) ?_ ?_
            rotate_left
            · intro w'
              go_simp
              with_reducible rfl
            rotate_left
            · simp only [Act.put, List.setIfInBounds_toArray, List.set_cons_zero, List.set_cons_succ, i64_w, i32_w]
              rfl
            refine pure_ (i := 10) (N := some 184) (v := ?_) (a' := ?_) #[true, true, true, true, true, true, true, true, true, true, true, false, false, false, false, false, false, false, false, false, false, false, false, false, false, false, false, false] rfl rfl (by kernel_rfl) (fun _ _ _ h => h) (Or.inl ⟨by rfl, ?_⟩) ?_ ?_
            rotate_left
            · intro w'
              go_simp
              with_reducible rfl
            rotate_left
            · simp only [Act.put, List.setIfInBounds_toArray, List.set_cons_zero, List.set_cons_succ, i64_w, i32_w]
              rfl
            refine pure_ (i := 11) (N := some 185) (v := ?_) (a' := ?_) #[true, true, true, true, true, true, true, true, true, true, true, true, false, false, false, false, false, false, false, false, false, false, false, false, false, false, false, false] rfl rfl (by kernel_rfl) (fun _ _ _ h => h) (Or.inl ⟨by rfl, ?_⟩) ?_ ?_
            rotate_left
            · intro w'
              go_simp
              with_reducible rfl
            rotate_left
            · simp only [Act.put, List.setIfInBounds_toArray, List.set_cons_zero, List.set_cons_succ, i64_w, i32_w]
              rfl
            refine take_ (i := 12) (N := some 186) (v := ?_) (a' := ?_) #[true, true, true, true, true, true, true, true, true, true, true, true, true, false, false, false, false, false, false, false, false, false, false, false, false, false, false, false] rfl rfl (by kernel_rfl) (fun _ _ _ h => h) (Or.inl ⟨by rfl, ?_⟩) hHeld ?_ ?_
            rotate_left
            · rintro w' ⟨s0, s1, s2, s3, s4⟩
              go_simp
              with_reducible rfl
            rotate_left
            · simp only [Act.put, List.setIfInBounds_toArray, List.set_cons_zero, List.set_cons_succ, i64_w, i32_w]
              rfl
            refine pure_ (i := 13) (N := some 187) (v := ?_) (a' := ?_) #[true, true, true, true, true, true, true, true, true, true, true, true, true, true, false, false, false, false, false, false, false, false, false, false, false, false, false, false] rfl rfl (by kernel_rfl) (fun _ _ _ h => h) (Or.inl ⟨by rfl, ?_⟩) ?_ ?_
            rotate_left
            · intro w'
              go_simp
              with_reducible rfl
            rotate_left
            · simp only [Act.put, List.setIfInBounds_toArray, List.set_cons_zero, List.set_cons_succ, i64_w, i32_w]
              rfl
            refine pure_ (i := 14) (N := some 188) (v := ?_) (a' := ?_) #[true, true, true, true, true, true, true, true, true, true, true, true, true, true, true, false, false, false, false, false, false, false, false, false, false, false, false, false] rfl rfl (by kernel_rfl) (fun _ _ _ h => h) (Or.inl ⟨by rfl, ?_⟩) ?_ ?_
            rotate_left
            · intro w'
              go_simp
              with_reducible rfl
            rotate_left
            · simp only [Act.put, List.setIfInBounds_toArray, List.set_cons_zero, List.set_cons_succ, i64_w, i32_w]
              rfl
            refine pure_ (i := 15) (N := some 189) (v := ?_) (a' := ?_) #[true, true, true, true, true, true, true, true, true, true, true, true, true, true, true, true, false, false, false, false, false, false, false, false, false, false, false, false] rfl rfl (by kernel_rfl) (fun _ _ _ h => h) (Or.inl ⟨by rfl, ?_⟩) ?_ ?_
            rotate_left
            · intro w'
              go_simp
              with_reducible rfl
            rotate_left
            · simp only [Act.put, List.setIfInBounds_toArray, List.set_cons_zero, List.set_cons_succ, i64_w, i32_w]
              rfl
            refine pure_ (i := 16) (N := some 190) (v := ?_) (a' := ?_) #[true, true, true, true, true, true, true, true, true, true, true, true, true, true, true, true, true, false, false, false, false, false, false, false, false, false, false, false] rfl rfl (by kernel_rfl) (fun _ _ _ h => h) (Or.inl ⟨by rfl, ?_⟩) ?_ ?_
            rotate_left
            · intro w'
              go_simp
              with_reducible rfl
            rotate_left
            · simp only [Act.put, List.setIfInBounds_toArray, List.set_cons_zero, List.set_cons_succ, i64_w, i32_w]
              rfl
            refine pure_ (i := 18) (N := some 192) (v := ?_) (a' := ?_) #[true, true, true, true, true, true, true, true, true, true, true, true, true, true, true, true, true, false, true, false, false, false, false, false, false, false, false, false] rfl rfl (by kernel_rfl) (fun _ _ _ h => h) (Or.inl ⟨by rfl, ?_⟩) ?_ ?_
            rotate_left
            · intro w'
              go_simp
              with_reducible rfl
            rotate_left
            · simp only [Act.put, List.setIfInBounds_toArray, List.set_cons_zero, List.set_cons_succ, i64_w, i32_w]
              rfl
            refine pure_ (i := 19) (N := some 193) (v := ?_) (a' := ?_) #[true, true, true, true, true, true, true, true, true, true, true, true, true, true, true, true, true, false, true, true, false, false, false, false, false, false, false, false] rfl rfl (by kernel_rfl) (fun _ _ _ h => h) (Or.inl ⟨by rfl, ?_⟩) ?_ ?_
            rotate_left
            · intro w'
              go_simp
              with_reducible rfl
            rotate_left
            · simp only [Act.put, List.setIfInBounds_toArray, List.set_cons_zero, List.set_cons_succ, i64_w, i32_w]
              rfl
            refine pure_ (i := 21) (N := some 195) (v := ?_) (a' := ?_) #[true, true, true, true, true, true, true, true, true, true, true, true, true, true, true, true, true, false, true, true, false, true, false, false, false, false, false, false] rfl rfl (by kernel_rfl) (fun _ _ _ h => h) (Or.inl ⟨by rfl, ?_⟩) ?_ ?_
            rotate_left
            · intro w'
              go_simp
              with_reducible rfl
            rotate_left
            · simp only [Act.put, List.setIfInBounds_toArray, List.set_cons_zero, List.set_cons_succ, i64_w, i32_w]
              rfl
            refine pure_ (i := 22) (N := some 196) (v := ?_) (a' := ?_) #[true, true, true, true, true, true, true, true, true, true, true, true, true, true, true, true, true, false, true, true, false, true, true, false, false, false, false, false] rfl rfl (by kernel_rfl) (fun _ _ _ h => h) (Or.inl ⟨by rfl, ?_⟩) ?_ ?_
            rotate_left
            · intro w'
              go_simp
              with_reducible rfl
            rotate_left
            · simp only [Act.put, List.setIfInBounds_toArray, List.set_cons_zero, List.set_cons_succ, i64_w, i32_w]
              rfl
            refine take_ (i := 17) (N := some 191) (v := ?_) (a' := ?_) #[true, true, true, true, true, true, true, true, true, true, true, true, true, true, true, true, true, true, true, true, false, true, true, false, false, false, false, false] rfl rfl (by kernel_rfl) (fun _ _ _ h => h) (Or.inl ⟨by rfl, ?_⟩) hHeld ?_ ?_
            rotate_left
            · rintro w' ⟨s0, s1, s2, s3, s4⟩
              go_simp
              with_reducible rfl
            rotate_left
            · simp only [Act.put, List.setIfInBounds_toArray, List.set_cons_zero, List.set_cons_succ, i64_w, i32_w]
              rfl
            refine take_ (i := 20) (N := some 194) (v := ?_) (a' := ?_) #[true, true, true, true, true, true, true, true, true, true, true, true, true, true, true, true, true, true, true, true, true, true, true, false, false, false, false, false] rfl rfl (by kernel_rfl) (fun _ _ _ h => h) (Or.inl ⟨by rfl, ?_⟩) hHeld ?_ ?_
            rotate_left
            · rintro w' ⟨s0, s1, s2, s3, s4⟩
              go_simp
              with_reducible rfl
            rotate_left
            · simp only [Act.put, List.setIfInBounds_toArray, List.set_cons_zero, List.set_cons_succ, i64_w, i32_w]
              rfl
            refine pure_ (i := 23) (N := some 197) (v := ?_) (a' := ?_) #[true, true, true, true, true, true, true, true, true, true, true, true, true, true, true, true, true, true, true, true, true, true, true, true, false, false, false, false] rfl rfl (by kernel_rfl) (fun _ _ _ h => h) (Or.inl ⟨by rfl, ?_⟩) ?_ ?_
            rotate_left
            · intro w'
              go_simp
              with_reducible rfl
            rotate_left
            · simp only [Act.put, List.setIfInBounds_toArray, List.set_cons_zero, List.set_cons_succ, i64_w, i32_w]
              rfl
            refine take_ (i := 24) (N := some 198) (v := ?_) (a' := ?_) #[true, true, true, true, true, true, true, true, true, true, true, true, true, true, true, true, true, true, true, true, true, true, true, true, true, false, false, false] rfl rfl (by kernel_rfl) (fun _ _ _ h => h) (Or.inl ⟨by rfl, ?_⟩) hHeld ?_ ?_
            rotate_left
            · rintro w' ⟨s0, s1, s2, s3, s4⟩
              go_simp
              with_reducible rfl
            rotate_left
            · simp only [Act.put, List.setIfInBounds_toArray, List.set_cons_zero, List.set_cons_succ, i64_w, i32_w]
              rfl
            refine pure_ (i := 25) (N := some 199) (v := ?_) (a' := ?_) #[true, true, true, true, true, true, true, true, true, true, true, true, true, true, true, true, true, true, true, true, true, true, true, true, true, true, false, false] rfl rfl (by kernel_rfl) (fun _ _ _ h => h) (Or.inl ⟨by rfl, ?_⟩) ?_ ?_
            rotate_left
            · intro w'
              go_simp
              with_reducible rfl
            rotate_left
            · simp only [Act.put, List.setIfInBounds_toArray, List.set_cons_zero, List.set_cons_succ, i64_w, i32_w]
              rfl
            refine pure_ (i := 26) (N := some 200) (v := ?_) (a' := ?_) #[true, true, true, true, true, true, true, true, true, true, true, true, true, true, true, true, true, true, true, true, true, true, true, true, true, true, true, false] rfl rfl (by kernel_rfl) (fun _ _ _ h => h) (Or.inl ⟨by rfl, ?_⟩) ?_ ?_
            rotate_left
            · intro w'
              go_simp
              with_reducible rfl
            rotate_left
            · simp only [Act.put, List.setIfInBounds_toArray, List.set_cons_zero, List.set_cons_succ, i64_w, i32_w]
              rfl
            refine pure_ (i := 27) (N := some 201) (v := ?_) (a' := ?_) #[true, true, true, true, true, true, true, true, true, true, true, true, true, true, true, true, true, true, true, true, true, true, true, true, true, true, true, true] rfl rfl (by kernel_rfl) (fun _ _ _ h => h) (Or.inl ⟨by rfl, ?_⟩) ?_ ?_
            rotate_left
            · intro w'
              go_simp
              with_reducible rfl
            rotate_left
            · simp only [Act.put, List.setIfInBounds_toArray, List.set_cons_zero, List.set_cons_succ, i64_w, i32_w]
              rfl
            refine done_ (by kernel_rfl) ?_
            go_wp2_with fail
            go_roundw
            case rel => exact ⟨1, by omega, rfl, HF8, HN8⟩
            case measure => simp [intOf]
          case inr.inr =>
            have HRD := Aside0.mk (read_rw' (bad := bad2) (fun k hk => by have := HGN.out.only k hk; have := HF.out.cn.lt; omega) HF.out.ph.at_ HG3.out HD3.out.1 true)
            obtain ⟨hl1, hl2, hl3, hl4, hl5⟩ := HLO.out.2
            have hl0 := (HKP.out.lo true).1
            rw [show iv true = 1 from rfl, show (D3.fl true) = D3.b from rfl, HD3.out.2.2.2] at HRD
            rw [show lv l0 l1 true = l1 from rfl] at hl0 hl1 hl2 hl3
            rw [show d.fl true = d.b from rfl] at HRD hl1 hl2 hl3 hl4 hl5
            obtain ⟨bb, hbb⟩ : ∃ bb, bb = (lost x1 y1 d.b).now := ⟨_, rfl⟩
            rw [← hbb] at HRD hl1 hl3 hl4 hl5
            obtain ⟨sx, hsx⟩ : ∃ sx, sx = d.b.sure := ⟨_, rfl⟩
            obtain ⟨nx, hnx⟩ : ∃ nx, nx = d.b.now := ⟨_, rfl⟩
            have hRs : Rw bad2 s1 sx wr := by rw [hsx]; exact HF.out.ph.r1
            have hRn : Rw bad2 n1 nx wr := by rw [hnx]; exact HN.out.2
            rw [← hsx] at hl2 hl3 hl4
            rw [← hnx] at hl4
            obtain ⟨As, cs, es⟩ := hRs.slice
            obtain ⟨An, cn, en_⟩ := hRn.slice
            have HRS := Aside0.mk hRs
            have HRN := Aside0.mk hRn
            have HL := Aside0.mk (And.intro hl0 (And.intro hl1 (And.intro hl2 (And.intro hl3 (And.intro hl4 hl5)))))
            have HSE := Aside0.mk (And.intro es en_)
            clear hbb hsx hnx hRs hRn hl0 hl1 hl2 hl3 hl4 hl5 es en_
            go_wp2_with fail
            refine HRD.out.mono ?_
            rintro e w7 ⟨Ab, cb, rfl, hR, hb⟩
            have HF7 := Aside0.mk (HF.out.then_ hb)
            have HN7 := Aside0.mk (And.intro (HN.out.1.below hb) (HN.out.2.below hb))
            obtain ⟨hl0, hl1, hl2, hl3, hl4, hl5⟩ := HL.out
            obtain ⟨ts, hts⟩ : ∃ ts, ts = bb.take l1.toNat := ⟨_, rfl⟩
            have hR1 := rw_taken hR hl0 hl1 hts
            have hRs7 := HRS.out.below hb
            rw [HSE.out.1] at hRs7
            have hS1 := rw_taken hRs7 hl0 hl2 (hts.trans hl3)
            have HSL := Aside0.mk (And.intro hR1.1 hS1.1)
            have HCV := Aside0.mk (And.intro hR1.2 hS1.2)
            obtain ⟨S1, hS1e⟩ : ∃ S1, S1 = strOfNums ts := ⟨_, rfl⟩
            rw [← hS1e] at HCV
            have sl1 := HSL.out.1
            have sl2 := HSL.out.2
            have xl := (show w7.cell? ⟨bl, 1, none⟩ = some (.int .i64 l1) from HF7.out.ph.cl.cell 1)
            have xs := (show w7.cell? ⟨bs, 1, none⟩ = some (.slice As sx.length cs) from by rw [← HSE.out.1]; exact HF7.out.ph.cs.cell 1)
            have XS := Aside0.mk xs
            have lb : decide ((bb.length : Int) < l1) = false := decide_eq_false (by omega)
            have HRB := Aside0.mk hR
            have HB7 := Aside0.mk hb
            clear hR hb hR1 hRs7 hS1 hts hS1e hl0 hl1 hl2 hl3 hl4 hl5 HRD
            go_wp2_with fail
            refine start_ (n := 27) (S := fun w' => w'.cell? ⟨bl, 1, none⟩ = some (.int .i64 l1) ∧ w'.cell? ⟨bs, 1, none⟩ = some (.slice As sx.length cs) ∧ (convert 23 9 (.slice Ab ts.length cb)).run Try.prog w' = .ok (.string S1) w' ∧ (convert 23 9 (.slice As ts.length cs)).run Try.prog w' = .ok (.string S1) w') (ds := []) #[false, false, false, false, false, false, false, false, false, false, false, false, false, false, false, false, false, false, false, false, false, false, false, false, false, false, false] (by kernel_rfl) rfl rfl ⟨xl, xs, HCV.out.1 _ (below_drew (Below.refl _ _)), HCV.out.2 _ (below_drew (Below.refl _ _))⟩ (fun hHeld => ?_)
            refine pure_ (i := 0) (N := some 147) (v := ?_) (a' := ?_) #[true, false, false, false, false, false, false, false, false, false, false, false, false, false, false, false, false, false, false, false, false, false, false, false, false, false, false] rfl rfl (by kernel_rfl) (fun _ _ _ h => h) (Or.inl ⟨by rfl, ?_⟩) ?_ ?_
            rotate_left
            · intro w'
              go_simp
              with_reducible rfl
            rotate_left
            · simp only [Act.put, List.setIfInBounds_toArray, List.set_cons_zero, List.set_cons_succ, i64_w, i32_w]
              rfl
            refine pure_ (i := 1) (N := some 148) (v := ?_) (a' := ?_) #[true, true, false, false, false, false, false, false, false, false, false, false, false, false, false, false, false, false, false, false, false, false, false, false, false, false, false] rfl rfl (by kernel_rfl) (fun _ _ _ h => h) (Or.inl ⟨by rfl, ?_⟩) ?_ ?_
            rotate_left
            · intro w'
              go_simp
              with_reducible rfl
            rotate_left
            · simp only [Act.put, List.setIfInBounds_toArray, List.set_cons_zero, List.set_cons_succ, i64_w, i32_w]
              rfl
            refine pure_ (i := 2) (N := some 149) (v := ?_) (a' := ?_) #[true, true, true, false, false, false, false, false, false, false, false, false, false, false, false, false, false, false, false, false, false, false, false, false, false, false, false] rfl rfl (by kernel_rfl) (fun _ _ _ h => h) (Or.inl ⟨by rfl, ?_⟩) ?_ ?_
            rotate_left
            · intro w'
              go_simp
              with_reducible rfl
            rotate_left
            · simp only [Act.put, List.setIfInBounds_toArray, List.set_cons_zero, List.set_cons_succ, i64_w, i32_w]
              rfl
            refine pure_ (i := 3) (N := some 150) (v := ?_) (a' := ?_) #[true, true, true, true, false, false, false, false, false, false, false, false, false, false, false, false, false, false, false, false, false, false, false, false, false, false, false] rfl rfl (by kernel_rfl) (fun _ _ _ h => h) (Or.inl ⟨by rfl, ?_⟩) ?_ ?_
            rotate_left
            · intro w'
              go_simp
              with_reducible rfl
            rotate_left
            · simp only [Act.put, List.setIfInBounds_toArray, List.set_cons_zero, List.set_cons_succ, i64_w, i32_w]
              rfl
            refine pure_ (i := 4) (N := some 151) (v := ?_) (a' := ?_) #[true, true, true, true, true, false, false, false, false, false, false, false, false, false, false, false, false, false, false, false, false, false, false, false, false, false, false] rfl rfl (by kernel_rfl) (fun _ _ _ h => h) (Or.inl ⟨by rfl, ?_⟩) ?_ ?_
            rotate_left
            · intro w'
              go_simp
              with_reducible rfl
            rotate_left
            · simp only [Act.put, List.setIfInBounds_toArray, List.set_cons_zero, List.set_cons_succ, i64_w, i32_w]
              rfl
            refine pure_ (i := 5) (N := some 152) (v := ?_) (a' := ?_) #[true, true, true, true, true, true, false, false, false, false, false, false, false, false, false, false, false, false, false, false, false, false, false, false, false, false, false] rfl rfl (by kernel_rfl) (fun _ _ _ h => h) (Or.inl ⟨by rfl, ?_⟩) ?_ ?_
            rotate_left
            · intro w'
              go_simp
              with_reducible rfl
            rotate_left
            · simp only [Act.put, List.setIfInBounds_toArray, List.set_cons_zero, List.set_cons_succ, i64_w, i32_w]
              rfl
            refine pure_ (i := 6) (N := some 153) (v := ?_) (a' := ?_) #[true, true, true, true, true, true, true, false, false, false, false, false, false, false, false, false, false, false, false, false, false, false, false, false, false, false, false] rfl rfl (by kernel_rfl) (fun _ _ _ h => h) (Or.inl ⟨by rfl, ?_⟩) ?_ ?_
            rotate_left
            · intro w'
              go_simp
              with_reducible rfl
            rotate_left
            · simp only [Act.put, List.setIfInBounds_toArray, List.set_cons_zero, List.set_cons_succ, i64_w, i32_w]
              rfl
            refine take_ (i := 7) (N := some 154) (v := ?_) (a' := ?_) #[true, true, true, true, true, true, true, true, false, false, false, false, false, false, false, false, false, false, false, false, false, false, false, false, false, false, false] rfl rfl (by kernel_rfl) (fun _ _ _ h => h) (Or.inl ⟨by rfl, ?_⟩) hHeld ?_ ?_
            rotate_left
            · rintro w' ⟨s0, s1, s2, s3⟩
              go_simp
              with_reducible rfl
            rotate_left
            · simp only [Act.put, List.setIfInBounds_toArray, List.set_cons_zero, List.set_cons_succ, i64_w, i32_w]
              rfl
            refine pure_ (i := 8) (N := some 155) (v := ?_) (a' := ?_) #[true, true, true, true, true, true, true, true, true, false, false, false, false, false, false, false, false, false, false, false, false, false, false, false, false, false, false] rfl rfl (by kernel_rfl) (fun _ _ _ h => h) (Or.inl ⟨by rfl, ?_⟩) ?_ ?_
            rotate_left
            · intro w'
              go_simp
              with_reducible rfl
            rotate_left
            · simp only [Act.put, List.setIfInBounds_toArray, List.set_cons_zero, List.set_cons_succ, i64_w, i32_w]
              rfl
            refine pure_ (i := 9) (N := some 156) (v := ?_) (a' := ?_) #[true, true, true, true, true, true, true, true, true, true, false, false, false, false, false, false, false, false, false, false, false, false, false, false, false, false, false] rfl rfl (by kernel_rfl) (fun _ _ _ h => h) (Or.inl ⟨by rfl, ?_⟩) ?_ ?_
            rotate_left
            · intro w'
              go_simp
              with_reducible rfl
            rotate_left
            · simp only [Act.put, List.setIfInBounds_toArray, List.set_cons_zero, List.set_cons_succ, i64_w, i32_w]
              rfl
            refine pure_ (i := 10) (N := some 157) (v := ?_) (a' := ?_) #[true, true, true, true, true, true, true, true, true, true, true, false, false, false, false, false, false, false, false, false, false, false, false, false, false, false, false] rfl rfl (by kernel_rfl) (fun _ _ _ h => h) (Or.inl ⟨by rfl, ?_⟩) ?_ ?_
            rotate_left
            · intro w'
              go_simp
              with_reducible rfl
            rotate_left
            · simp only [Act.put, List.setIfInBounds_toArray, List.set_cons_zero, List.set_cons_succ, i64_w, i32_w]
              rfl
            refine pure_ (i := 11) (N := some 158) (v := ?_) (a' := ?_) #[true, true, true, true, true, true, true, true, true, true, true, true, false, false, false, false, false, false, false, false, false, false, false, false, false, false, false] rfl rfl (by kernel_rfl) (fun _ _ _ h => h) (Or.inl ⟨by rfl, ?_⟩) ?_ ?_
            rotate_left
            · intro w'
              go_simp
              with_reducible rfl
            rotate_left
            · simp only [Act.put, List.setIfInBounds_toArray, List.set_cons_zero, List.set_cons_succ, i64_w, i32_w]
              rfl
            refine pure_ (i := 12) (N := some 159) (v := ?_) (a' := ?_) #[true, true, true, true, true, true, true, true, true, true, true, true, true, false, false, false, false, false, false, false, false, false, false, false, false, false, false] rfl rfl (by kernel_rfl) (fun _ _ _ h => h) (Or.inl ⟨by rfl, ?_⟩) ?_ ?_
            rotate_left
            · intro w'
              go_simp
              with_reducible rfl
            rotate_left
            · simp only [Act.put, List.setIfInBounds_toArray, List.set_cons_zero, List.set_cons_succ, i64_w, i32_w]
              rfl
            refine pure_ (i := 13) (N := some 160) (v := ?_) (a' := ?_) #[true, true, true, true, true, true, true, true, true, true, true, true, true, true, false, false, false, false, false, false, false, false, false, false, false, false, false] rfl rfl (by kernel_rfl) (fun _ _ _ h => h) (Or.inl ⟨by rfl, ?_⟩) ?_ ?_
            rotate_left
            · intro w'
              go_simp
              with_reducible rfl
            rotate_left
            · simp only [Act.put, List.setIfInBounds_toArray, List.set_cons_zero, List.set_cons_succ, i64_w, i32_w]
              rfl
            refine pure_ (i := 17) (N := some 164) (v := ?_) (a' := ?_) #[true, true, true, true, true, true, true, true, true, true, true, true, true, true, false, false, false, true, false, false, false, false, false, false, false, false, false] rfl rfl (by kernel_rfl) (fun _ _ _ h => h) (Or.inl ⟨by rfl, ?_⟩) ?_ ?_
            rotate_left
            · intro w'
              go_simp
              with_reducible rfl
            rotate_left
            · simp only [Act.put, List.setIfInBounds_toArray, List.set_cons_zero, List.set_cons_succ, i64_w, i32_w]
              rfl
            refine pure_ (i := 18) (N := some 165) (v := ?_) (a' := ?_) #[true, true, true, true, true, true, true, true, true, true, true, true, true, true, false, false, false, true, true, false, false, false, false, false, false, false, false] rfl rfl (by kernel_rfl) (fun _ _ _ h => h) (Or.inl ⟨by rfl, ?_⟩) ?_ ?_
            rotate_left
            · intro w'
              go_simp
              with_reducible rfl
            rotate_left
            · simp only [Act.put, List.setIfInBounds_toArray, List.set_cons_zero, List.set_cons_succ, i64_w, i32_w]
              rfl
            refine pure_ (i := 20) (N := some 167) (v := ?_) (a' := ?_) #[true, true, true, true, true, true, true, true, true, true, true, true, true, true, false, false, false, true, true, false, true, false, false, false, false, false, false] rfl rfl (by kernel_rfl) (fun _ _ _ h => h) (Or.inl ⟨by rfl, ?_⟩) ?_ ?_
            rotate_left
            · intro w'
              go_simp
              with_reducible rfl
            rotate_left
            · simp only [Act.put, List.setIfInBounds_toArray, List.set_cons_zero, List.set_cons_succ, i64_w, i32_w]
              rfl
            refine pure_ (i := 21) (N := some 168) (v := ?_) (a' := ?_) #[true, true, true, true, true, true, true, true, true, true, true, true, true, true, false, false, false, true, true, false, true, true, false, false, false, false, false] rfl rfl (by kernel_rfl) (fun _ _ _ h => h) (Or.inl ⟨by rfl, ?_⟩) ?_ ?_
            rotate_left
            · intro w'
              go_simp
              with_reducible rfl
            rotate_left
            · simp only [Act.put, List.setIfInBounds_toArray, List.set_cons_zero, List.set_cons_succ, i64_w, i32_w]
              rfl
            refine take_ (i := 14) (N := some 161) (v := ?_) (a' := ?_) #[true, true, true, true, true, true, true, true, true, true, true, true, true, true, true, false, false, true, true, false, true, true, false, false, false, false, false] rfl rfl (by kernel_rfl) (fun _ _ _ h => h) (Or.inl ⟨by rfl, ?_⟩) hHeld ?_ ?_
            rotate_left
            · rintro w' ⟨s0, s1, s2, s3⟩
              go_simp
              with_reducible rfl
            rotate_left
            · simp only [Act.put, List.setIfInBounds_toArray, List.set_cons_zero, List.set_cons_succ, i64_w, i32_w]
              rfl
            refine pure_ (i := 15) (N := some 162) (v := ?_) (a' := ?_) #[true, true, true, true, true, true, true, true, true, true, true, true, true, true, true, true, false, true, true, false, true, true, false, false, false, false, false] rfl rfl (by kernel_rfl) (fun _ _ _ h => h) (Or.inl ⟨by rfl, ?_⟩) ?_ ?_
            rotate_left
            · intro w'
              go_simp
              with_reducible rfl
            rotate_left
            · simp only [Act.put, List.setIfInBounds_toArray, List.set_cons_zero, List.set_cons_succ, i64_w, i32_w]
              rfl
            refine take_ (i := 16) (N := some 163) (v := ?_) (a' := ?_) #[true, true, true, true, true, true, true, true, true, true, true, true, true, true, true, true, true, true, true, false, true, true, false, false, false, false, false] rfl rfl (by kernel_rfl) (fun _ _ _ h => h) (Or.inl ⟨by rfl, ?_⟩) hHeld ?_ ?_
            rotate_left
            · rintro w' ⟨s0, s1, s2, s3⟩
              go_simp
              with_reducible rfl
            rotate_left
            · simp only [Act.put, List.setIfInBounds_toArray, List.set_cons_zero, List.set_cons_succ, i64_w, i32_w]
              rfl
            refine take_ (i := 19) (N := some 166) (v := ?_) (a' := ?_) #[true, true, true, true, true, true, true, true, true, true, true, true, true, true, true, true, true, true, true, true, true, true, false, false, false, false, false] rfl rfl (by kernel_rfl) (fun _ _ _ h => h) (Or.inl ⟨by rfl, ?_⟩) hHeld ?_ ?_
            rotate_left
            · rintro w' ⟨s0, s1, s2, s3⟩
              go_simp
              with_reducible rfl
            rotate_left
            · simp only [Act.put, List.setIfInBounds_toArray, List.set_cons_zero, List.set_cons_succ, i64_w, i32_w]
              rfl
            refine take_ (i := 22) (N := some 169) (v := ?_) (a' := ?_) #[true, true, true, true, true, true, true, true, true, true, true, true, true, true, true, true, true, true, true, true, true, true, true, false, false, false, false] rfl rfl (by kernel_rfl) (fun _ _ _ h => h) (Or.inl ⟨by rfl, ?_⟩) hHeld ?_ ?_
            rotate_left
            · rintro w' ⟨s0, s1, s2, s3⟩
              go_simp
              with_reducible rfl
            rotate_left
            · simp only [Act.put, List.setIfInBounds_toArray, List.set_cons_zero, List.set_cons_succ, i64_w, i32_w]
              rfl
            refine pure_ (i := 23) (N := some 170) (v := ?_) (a' := ?_) #[true, true, true, true, true, true, true, true, true, true, true, true, true, true, true, true, true, true, true, true, true, true, true, true, false, false, false] rfl rfl (by kernel_rfl) (fun _ _ _ h => h) (Or.inl ⟨by rfl, ?_⟩) ?_ ?_
            rotate_left
            · intro w'
              go_simp
              with_reducible rfl
            rotate_left
            · simp only [Act.put, List.setIfInBounds_toArray, List.set_cons_zero, List.set_cons_succ, i64_w, i32_w]
              rfl
            refine take_ (i := 24) (N := some 171) (v := ?_) (a' := ?_) #[true, true, true, true, true, true, true, true, true, true, true, true, true, true, true, true, true, true, true, true, true, true, true, true, true, false, false] rfl rfl (by kernel_rfl) (fun _ _ _ h => h) (Or.inl ⟨by rfl, ?_⟩) hHeld ?_ ?_
            rotate_left
            · rintro w' ⟨s0, s1, s2, s3⟩
              go_simp
              with_reducible rfl
            rotate_left
            · simp only [Act.put, List.setIfInBounds_toArray, List.set_cons_zero, List.set_cons_succ, i64_w, i32_w]
              rfl
            refine pure_ (i := 25) (N := some 172) (v := ?_) (a' := ?_) #[true, true, true, true, true, true, true, true, true, true, true, true, true, true, true, true, true, true, true, true, true, true, true, true, true, true, false] rfl rfl (by kernel_rfl) (fun _ _ _ h => h) (Or.inl ⟨by rfl, ?_⟩) ?_ ?_
            rotate_left
            · intro w'
              go_simp
              with_reducible rfl
            rotate_left
            · simp only [Act.put, List.setIfInBounds_toArray, List.set_cons_zero, List.set_cons_succ, i64_w, i32_w]
              rfl
            refine pure_ (i := 26) (N := some 173) (v := ?_) (a' := ?_) #[true, true, true, true, true, true, true, true, true, true, true, true, true, true, true, true, true, true, true, true, true, true, true, true, true, true, true] rfl rfl (by kernel_rfl) (fun _ _ _ h => h) (Or.inl ⟨by rfl, ?_⟩) ?_ ?_
            rotate_left
            · intro w'
              go_simp
              with_reducible rfl
            rotate_left
            · simp only [Act.put, List.setIfInBounds_toArray, List.set_cons_zero, List.set_cons_succ, i64_w, i32_w]
              rfl
            refine done_ (by kernel_rfl) ?_
            clear sl1 sl2 xl xs lb
            obtain ⟨Sb, hSb⟩ : ∃ Sb, Sb = strOfNums bb := ⟨_, rfl⟩
            obtain ⟨Ss, hSs⟩ : ∃ Ss, Ss = strOfNums sx := ⟨_, rfl⟩
            have cvb : ∀ W, Below w7.heap.size w7 W → (convert 23 9 (.slice Ab bb.length cb)).run Try.prog W = .ok (.string Sb) W := fun W h => by rw [hSb]; exact (HRB.out.below h).str
            have cvs : ∀ W, Below w7.heap.size w7 W → (convert 23 9 (.slice As sx.length cs)).run Try.prog W = .ok (.string Ss) W := fun W h => by rw [hSs, ← HSE.out.1]; exact ((HRS.out.below HB7.out).below h).str
            have CVB := Aside0.mk cvb
            have CVS := Aside0.mk cvs
            have hd2 := below_drew (below_drew (Below.refl w7.heap.size w7))
            have HF8 := Aside0.mk (HF7.out.then_ hd2)
            have HN8 := Aside0.mk (And.intro (HN7.out.1.below hd2) (HN7.out.2.below hd2))
            have HDD := Aside0.mk hd2
            have HSB := Aside0.mk hSb
            have HSS := Aside0.mk hSs
            have xs8 := (show w7.drew.cell? ⟨bs, 1, none⟩ = some (.slice As sx.length cs) from XS.out)
            clear cvb cvs hd2 hSb hSs
            by_cases hs : Sb = Ss
            case pos =>
              subst hs
              go_wp2_with fail
              refine start_ (n := 28) (S := fun w' => w'.cell? ⟨bs, 1, none⟩ = some (.slice As sx.length cs) ∧ (convert 23 9 (.slice Ab bb.length cb)).run Try.prog w' = .ok (.string Sb) w' ∧ (convert 23 9 (.slice As sx.length cs)).run Try.prog w' = .ok (.string Sb) w') (ds := []) #[false, false, false, false, false, false, false, false, false, false, false, false, false, false, false, false, false, false, false, false, false, false, false, false, false, false, false, false] (by kernel_rfl) rfl rfl ⟨xs8, CVB.out _ HDD.out, CVS.out _ HDD.out⟩ (fun hHeld => ?_)
              refine pure_ (i := 0) (N := some 174) (v := ?_) (a' := ?_) #[true, false, false, false, false, false, false, false, false, false, false, false, false, false, false, false, false, false, false, false, false, false, false, false, false, false, false, false] rfl rfl (by kernel_rfl) (fun _ _ _ h => h) (Or.inl ⟨by rfl, ?_⟩) ?_ ?_
              rotate_left
              · intro w'
                go_simp
                with_reducible rfl
              rotate_left
              · simp only [Act.put, List.setIfInBounds_toArray, List.set_cons_zero, List.set_cons_succ, i64_w, i32_w]
                rfl
              refine pure_ (i := 2) (N := some 176) (v := ?_) (a' := ?_) #[true, false, true, false, false, false, false, false, false, false, false, false, false, false, false, false, false, false, false, false, false, false, false, false, false, false, false, false] rfl rfl (by kernel_rfl) (fun _ _ _ h => h) (Or.inl ⟨by rfl, ?_⟩) ?_ ?_
              rotate_left
              · intro w'
                go_simp
                with_reducible rfl
              rotate_left
              · simp only [Act.put, List.setIfInBounds_toArray, List.set_cons_zero, List.set_cons_succ, i64_w, i32_w]
                rfl
              refine pure_ (i := 3) (N := some 177) (v := ?_) (a' := ?_) #[true, false, true, true, false, false, false, false, false, false, false, false, false, false, false, false, false, false, false, false, false, false, false, false, false, false, false, false] rfl rfl (by kernel_rfl) (fun _ _ _ h => h) (Or.inl ⟨by rfl, ?_⟩) ?_ ?_
              rotate_left
              · intro w'
                go_simp
                with_reducible rfl
              rotate_left
              · simp only [Act.put, List.setIfInBounds_toArray, List.set_cons_zero, List.set_cons_succ, i64_w, i32_w]
                rfl
              refine take_ (i := 1) (N := some 175) (v := ?_) (a' := ?_) #[true, true, true, true, false, false, false, false, false, false, false, false, false, false, false, false, false, false, false, false, false, false, false, false, false, false, false, false] rfl rfl (by kernel_rfl) (fun _ _ _ h => h) (Or.inl ⟨by rfl, ?_⟩) hHeld ?_ ?_
              rotate_left
              · rintro w' ⟨s0, s1, s2⟩
                go_simp
                with_reducible rfl
              rotate_left
              · simp only [Act.put, List.setIfInBounds_toArray, List.set_cons_zero, List.set_cons_succ, i64_w, i32_w]
                rfl
              refine take_ (i := 4) (N := some 178) (v := ?_) (a' := ?_) #[true, true, true, true, true, false, false, false, false, false, false, false, false, false, false, false, false, false, false, false, false, false, false, false, false, false, false, false] rfl rfl (by kernel_rfl) (fun _ _ _ h => h) (Or.inl ⟨by rfl, ?_⟩) hHeld ?_ ?_
              rotate_left
              · rintro w' ⟨s0, s1, s2⟩
                go_simp
                with_reducible rfl
              rotate_left
              · simp only [Act.put, List.setIfInBounds_toArray, List.set_cons_zero, List.set_cons_succ, i64_w, i32_w]
                rfl
              refine take_ (i := 5) (N := some 179) (v := ?_) (a' := ?_) #[true, true, true, true, true, true, false, false, false, false, false, false, false, false, false, false, false, false, false, false, false, false, false, false, false, false, false, false] rfl rfl (by kernel_rfl) (fun _ _ _ h => h) (Or.inl ⟨by rfl, ?_⟩) hHeld ?_ ?_
              rotate_left
              · rintro w' ⟨s0, s1, s2⟩
                go_simp
                with_reducible rfl
              rotate_left
              · simp only [Act.put, List.setIfInBounds_toArray, List.set_cons_zero, List.set_cons_succ, i64_w, i32_w]
                rfl
              refine pure_ (i := 6) (N := some 180) (v := ?_) (a' := ?_) #[true, true, true, true, true, true, true, false, false, false, false, false, false, false, false, false, false, false, false, false, false, false, false, false, false, false, false, false] rfl rfl (by kernel_rfl) (fun _ _ _ h => h) (Or.inl ⟨by rfl, ?_⟩) ?_ ?_
              rotate_left
              · intro w'
                go_simp
                with_reducible rfl
              rotate_left
              · simp only [Act.put, List.setIfInBounds_toArray, List.set_cons_zero, List.set_cons_succ, i64_w, i32_w]
                rfl
              refine pure_ (i := 7) (N := some 181) (v := ?_) (a' := ?_) #[true, true, true, true, true, true, true, true, false, false, false, false, false, false, false, false, false, false, false, false, false, false, false, false, false, false, false, false] rfl rfl (by kernel_rfl) (fun _ _ _ h => h) (Or.inl ⟨by rfl, ?_⟩) ?_ ?_
              rotate_left
              · intro w'
                go_simp
                with_reducible rfl
              rotate_left
              · simp only [Act.put, List.setIfInBounds_toArray, List.set_cons_zero, List.set_cons_succ, i64_w, i32_w]
                rfl
              refine pure_ (i := 8) (N := some 182) (v := undef) (a' := ?_) #[true, true, true, true, true, true, true, true, true, false, false, false, false, false, false, false, false, false, false, false, false, false, false, false, false, false, false, false] rfl rfl (by kernel_rfl) (fun _ _ _ h => h) (Or.inr ⟨by rfl, rfl⟩) ?_ ?_
              rotate_left
              · simp only [Act.put, List.setIfInBounds_toArray, List.set_cons_zero, List.set_cons_succ, i64_w, i32_w]
                rfl
              refine pure_ (i := 9) (N := some 183) (v := undef) (a' := ?_) #[true, true, true, true, true, true, true, true, true, true, false, false, false, false, false, false, false, false, false, false, false, false, false, false, false, false, false, false] rfl rfl (by kernel_rfl) (fun _ _ _ h => h) (Or.inr ⟨by rfl, rfl⟩) ?_ ?_
              rotate_left
              · simp only [Act.put, List.setIfInBounds_toArray, List.set_cons_zero, List.set_cons_succ, i64_w, i32_w]
                rfl
              refine pure_ (i := 10) (N := some 184) (v := undef) (a' := ?_) #[true, true, true, true, true, true, true, true, true, true, true, false, false, false, false, false, false, false, false, false, false, false, false, false, false, false, false, false] rfl rfl (by kernel_rfl) (fun _ _ _ h => h) (Or.inr ⟨by rfl, rfl⟩) ?_ ?_
              rotate_left
              · simp only [Act.put, List.setIfInBounds_toArray, List.set_cons_zero, List.set_cons_succ, i64_w, i32_w]
                rfl
              refine pure_ (i := 11) (N := some 185) (v := undef) (a' := ?_) #[true, true, true, true, true, true, true, true, true, true, true, true, false, false, false, false, false, false, false, false, false, false, false, false, false, false, false, false] rfl rfl (by kernel_rfl) (fun _ _ _ h => h) (Or.inr ⟨by rfl, rfl⟩) ?_ ?_
              rotate_left
              · simp only [Act.put, List.setIfInBounds_toArray, List.set_cons_zero, List.set_cons_succ, i64_w, i32_w]
                rfl
              refine pure_ (i := 12) (N := some 186) (v := undef) (a' := ?_) #[true, true, true, true, true, true, true, true, true, true, true, true, true, false, false, false, false, false, false, false, false, false, false, false, false, false, false, false] rfl rfl (by kernel_rfl) (fun _ _ _ h => h) (Or.inr ⟨by rfl, rfl⟩) ?_ ?_
              rotate_left
              · simp only [Act.put, List.setIfInBounds_toArray, List.set_cons_zero, List.set_cons_succ, i64_w, i32_w]
                rfl
              refine pure_ (i := 13) (N := some 187) (v := undef) (a' := ?_) #[true, true, true, true, true, true, true, true, true, true, true, true, true, true, false, false, false, false, false, false, false, false, false, false, false, false, false, false] rfl rfl (by kernel_rfl) (fun _ _ _ h => h) (Or.inr ⟨by rfl, rfl⟩) ?_ ?_
              rotate_left
              · simp only [Act.put, List.setIfInBounds_toArray, List.set_cons_zero, List.set_cons_succ, i64_w, i32_w]
                rfl
              refine pure_ (i := 14) (N := some 188) (v := undef) (a' := ?_) #[true, true, true, true, true, true, true, true, true, true, true, true, true, true, true, false, false, false, false, false, false, false, false, false, false, false, false, false] rfl rfl (by kernel_rfl) (fun _ _ _ h => h) (Or.inr ⟨by rfl, rfl⟩) ?_ ?_
              rotate_left
              · simp only [Act.put, List.setIfInBounds_toArray, List.set_cons_zero, List.set_cons_succ, i64_w, i32_w]
                rfl
              refine pure_ (i := 15) (N := some 189) (v := undef) (a' := ?_) #[true, true, true, true, true, true, true, true, true, true, true, true, true, true, true, true, false, false, false, false, false, false, false, false, false, false, false, false] rfl rfl (by kernel_rfl) (fun _ _ _ h => h) (Or.inr ⟨by rfl, rfl⟩) ?_ ?_
              rotate_left
              · simp only [Act.put, List.setIfInBounds_toArray, List.set_cons_zero, List.set_cons_succ, i64_w, i32_w]
                rfl
              refine pure_ (i := 16) (N := some 190) (v := undef) (a' := ?_) #[true, true, true, true, true, true, true, true, true, true, true, true, true, true, true, true, true, false, false, false, false, false, false, false, false, false, false, false] rfl rfl (by kernel_rfl) (fun _ _ _ h => h) (Or.inr ⟨by rfl, rfl⟩) ?_ ?_
              rotate_left
              · simp only [Act.put, List.setIfInBounds_toArray, List.set_cons_zero, List.set_cons_succ, i64_w, i32_w]
                rfl
              refine pure_ (i := 17) (N := some 191) (v := undef) (a' := ?_) #[true, true, true, true, true, true, true, true, true, true, true, true, true, true, true, true, true, true, false, false, false, false, false, false, false, false, false, false] rfl rfl (by kernel_rfl) (fun _ _ _ h => h) (Or.inr ⟨by rfl, rfl⟩) ?_ ?_
              rotate_left
              · simp only [Act.put, List.setIfInBounds_toArray, List.set_cons_zero, List.set_cons_succ, i64_w, i32_w]
                rfl
              refine pure_ (i := 18) (N := some 192) (v := undef) (a' := ?_) #[true, true, true, true, true, true, true, true, true, true, true, true, true, true, true, true, true, true, true, false, false, false, false, false, false, false, false, false] rfl rfl (by kernel_rfl) (fun _ _ _ h => h) (Or.inr ⟨by rfl, rfl⟩) ?_ ?_
              rotate_left
              · simp only [Act.put, List.setIfInBounds_toArray, List.set_cons_zero, List.set_cons_succ, i64_w, i32_w]
                rfl
              refine pure_ (i := 19) (N := some 193) (v := undef) (a' := ?_) #[true, true, true, true, true, true, true, true, true, true, true, true, true, true, true, true, true, true, true, true, false, false, false, false, false, false, false, false] rfl rfl (by kernel_rfl) (fun _ _ _ h => h) (Or.inr ⟨by rfl, rfl⟩) ?_ ?_
              rotate_left
              · simp only [Act.put, List.setIfInBounds_toArray, List.set_cons_zero, List.set_cons_succ, i64_w, i32_w]
                rfl
              refine pure_ (i := 20) (N := some 194) (v := undef) (a' := ?_) #[true, true, true, true, true, true, true, true, true, true, true, true, true, true, true, true, true, true, true, true, true, false, false, false, false, false, false, false] rfl rfl (by kernel_rfl) (fun _ _ _ h => h) (Or.inr ⟨by rfl, rfl⟩) ?_ ?_
              rotate_left
              · simp only [Act.put, List.setIfInBounds_toArray, List.set_cons_zero, List.set_cons_succ, i64_w, i32_w]
                rfl
              refine pure_ (i := 21) (N := some 195) (v := undef) (a' := ?_) #[true, true, true, true, true, true, true, true, true, true, true, true, true, true, true, true, true, true, true, true, true, true, false, false, false, false, false, false] rfl rfl (by kernel_rfl) (fun _ _ _ h => h) (Or.inr ⟨by rfl, rfl⟩) ?_ ?_
              rotate_left
              · simp only [Act.put, List.setIfInBounds_toArray, List.set_cons_zero, List.set_cons_succ, i64_w, i32_w]
                rfl
              refine pure_ (i := 22) (N := some 196) (v := undef) (a' := ?_) #[true, true, true, true, true, true, true, true, true, true, true, true, true, true, true, true, true, true, true, true, true, true, true, false, false, false, false, false] rfl rfl (by kernel_rfl) (fun _ _ _ h => h) (Or.inr ⟨by rfl, rfl⟩) ?_ ?_
              rotate_left
              · simp only [Act.put, List.setIfInBounds_toArray, List.set_cons_zero, List.set_cons_succ, i64_w, i32_w]
                rfl
              refine pure_ (i := 23) (N := some 197) (v := undef) (a' := ?_) #[true, true, true, true, true, true, true, true, true, true, true, true, true, true, true, true, true, true, true, true, true, true, true, true, false, false, false, false] rfl rfl (by kernel_rfl) (fun _ _ _ h => h) (Or.inr ⟨by rfl, rfl⟩) ?_ ?_
              rotate_left
              · simp only [Act.put, List.setIfInBounds_toArray, List.set_cons_zero, List.set_cons_succ, i64_w, i32_w]
                rfl
              refine pure_ (i := 24) (N := some 198) (v := undef) (a' := ?_) #[true, true, true, true, true, true, true, true, true, true, true, true, true, true, true, true, true, true, true, true, true, true, true, true, true, false, false, false] rfl rfl (by kernel_rfl) (fun _ _ _ h => h) (Or.inr ⟨by rfl, rfl⟩) ?_ ?_
              rotate_left
              · simp only [Act.put, List.setIfInBounds_toArray, List.set_cons_zero, List.set_cons_succ, i64_w, i32_w]
                rfl
              refine pure_ (i := 25) (N := some 199) (v := undef) (a' := ?_) #[true, true, true, true, true, true, true, true, true, true, true, true, true, true, true, true, true, true, true, true, true, true, true, true, true, true, false, false] rfl rfl (by kernel_rfl) (fun _ _ _ h => h) (Or.inr ⟨by rfl, rfl⟩) ?_ ?_
              rotate_left
              · simp only [Act.put, List.setIfInBounds_toArray, List.set_cons_zero, List.set_cons_succ, i64_w, i32_w]
                rfl
              refine pure_ (i := 26) (N := some 200) (v := undef) (a' := ?_) #[true, true, true, true, true, true, true, true, true, true, true, true, true, true, true, true, true, true, true, true, true, true, true, true, true, true, true, false] rfl rfl (by kernel_rfl) (fun _ _ _ h => h) (Or.inr ⟨by rfl, rfl⟩) ?_ ?_
              rotate_left
              · simp only [Act.put, List.setIfInBounds_toArray, List.set_cons_zero, List.set_cons_succ, i64_w, i32_w]
                rfl
              refine pure_ (i := 27) (N := some 201) (v := ?_) (a' := ?_) #[true, true, true, true, true, true, true, true, true, true, true, true, true, true, true, true, true, true, true, true, true, true, true, true, true, true, true, true] rfl rfl (by kernel_rfl) (fun _ _ _ h => h) (Or.inl ⟨by rfl, ?_⟩) ?_ ?_
              rotate_left
              · intro w'
                go_simp
                with_reducible rfl
              rotate_left
              · simp only [Act.put, List.setIfInBounds_toArray, List.set_cons_zero, List.set_cons_succ, i64_w, i32_w]
                rfl
              refine done_ (by kernel_rfl) ?_
              go_wp2_with fail
              go_roundw
              case rel => exact ⟨2, by omega, rfl, HF8, HN8⟩
              case measure => simp [intOf]
            have hpre : bb <+: nx := by
              rcases HL.out.2.2.2.2.1 with h | h
              · exact absurd (by rw [HSB.out, HSS.out, h]) hs
              · exact h
            have hRn7 := HRN.out.below HB7.out
            rw [HSE.out.2] at hRn7
            have hnt := rw_taken hRn7 (n := (bb.length : Int)) (ts := bb) (Int.natCast_nonneg _) (by have := hpre.length_le; omega) (by rw [Int.toNat_natCast]; exact (List.prefix_iff_eq_take.1 hpre))
            have sl3 := hnt.1
            have cvn : ∀ W, Below w7.heap.size w7 W → (convert 23 9 (.slice An bb.length cn)).run Try.prog W = .ok (.string Sb) W := fun W h => by rw [HSB.out]; exact hnt.2 W h
            have CVN := Aside0.mk cvn
            have xn8 := (show w7.drew.cell? ⟨bn, 1, none⟩ = some (.slice An nx.length cn) from by rw [← HSE.out.2]; exact HF7.out.cn.cell 1)
            have lg : decide ((bb.length : Int) > (nx.length : Int)) = false := decide_eq_false (by have := hpre.length_le; omega)
            have lg2 : decide (nx.length < bb.length) = false := decide_eq_false (by have := hpre.length_le; omega)
            have lg3 : ¬ nx.length < bb.length := by have := hpre.length_le; omega
            have hs0 : ¬ Sb.toList = Ss.toList := fun h => hs (toList_inj h)
            have hs1 : (Sb.toList == Ss.toList) = false := by simpa using hs0
            have hs2 : (Sb.toList != Ss.toList) = true := by simpa using hs0
            have hs3 : decide (Sb.toList = Ss.toList) = false := decide_eq_false hs0
            clear hpre hRn7 hnt cvn
            go_wp2_with fail
            refine start_ (n := 28) (S := fun w' => w'.cell? ⟨bs, 1, none⟩ = some (.slice As sx.length cs) ∧ (convert 23 9 (.slice Ab bb.length cb)).run Try.prog w' = .ok (.string Sb) w' ∧ (convert 23 9 (.slice As sx.length cs)).run Try.prog w' = .ok (.string Ss) w' ∧ w'.cell? ⟨bn, 1, none⟩ = some (.slice An nx.length cn) ∧ (convert 23 9 (.slice An bb.length cn)).run Try.prog w' = .ok (.string Sb) w') (ds := []) #[false, false, false, false, false, false, false, false, false, false, false, false, false, false, false, false, false, false, false, false, false, false, false, false, false, false, false, false] (by kernel_rfl) rfl rfl ⟨xs8, CVB.out _ HDD.out, CVS.out _ HDD.out, xn8, CVN.out _ HDD.out⟩ (fun hHeld => ?_)
            refine pure_ (i := 0) (N := some 174) (v := ?_) (a' := ?_) #[true, false, false, false, false, false, false, false, false, false, false, false, false, false, false, false, false, false, false, false, false, false, false, false, false, false, false, false] rfl rfl (by kernel_rfl) (fun _ _ _ h => h) (Or.inl ⟨by rfl, ?_⟩) ?_ ?_
            rotate_left
            · intro w'
              go_simp
              with_reducible rfl
            rotate_left
            · simp only [Act.put, List.setIfInBounds_toArray, List.set_cons_zero, List.set_cons_succ, i64_w, i32_w]
              rfl
            refine pure_ (i := 2) (N := some 176) (v := ?_) (a' := ?_) #[true, false, true, false, false, false, false, false, false, false, false, false, false, false, false, false, false, false, false, false, false, false, false, false, false, false, false, false] rfl rfl (by kernel_rfl) (fun _ _ _ h => h) (Or.inl ⟨by rfl, ?_⟩) ?_ ?_
            rotate_left
            · intro w'
              go_simp
              with_reducible rfl
            rotate_left
            · simp only [Act.put, List.setIfInBounds_toArray, List.set_cons_zero, List.set_cons_succ, i64_w, i32_w]
              rfl
            refine pure_ (i := 3) (N := some 177) (v := ?_) (a' := ?_) #[true, false, true, true, false, false, false, false, false, false, false, false, false, false, false, false, false, false, false, false, false, false, false, false, false, false, false, false] rfl rfl (by kernel_rfl) (fun _ _ _ h => h) (Or.inl ⟨by rfl, ?_⟩) ?_ ?_
            rotate_left
            · intro w'
              go_simp
              with_reducible rfl
            rotate_left
            · simp only [Act.put, List.setIfInBounds_toArray, List.set_cons_zero, List.set_cons_succ, i64_w, i32_w]
              rfl
            refine take_ (i := 1) (N := some 175) (v := ?_) (a' := ?_) #[true, true, true, true, false, false, false, false, false, false, false, false, false, false, false, false, false, false, false, false, false, false, false, false, false, false, false, false] rfl rfl (by kernel_rfl) (fun _ _ _ h => h) (Or.inl ⟨by rfl, ?_⟩) hHeld ?_ ?_
            rotate_left
            · rintro w' ⟨s0, s1, s2, s3, s4⟩
              go_simp
              with_reducible rfl
            rotate_left
            · simp only [Act.put, List.setIfInBounds_toArray, List.set_cons_zero, List.set_cons_succ, i64_w, i32_w]
              rfl
            refine take_ (i := 4) (N := some 178) (v := ?_) (a' := ?_) #[true, true, true, true, true, false, false, false, false, false, false, false, false, false, false, false, false, false, false, false, false, false, false, false, false, false, false, false] rfl rfl (by kernel_rfl) (fun _ _ _ h => h) (Or.inl ⟨by rfl, ?_⟩) hHeld ?_ ?_
            rotate_left
            · rintro w' ⟨s0, s1, s2, s3, s4⟩
              go_simp
              with_reducible rfl
            rotate_left
            · simp only [Act.put, List.setIfInBounds_toArray, List.set_cons_zero, List.set_cons_succ, i64_w, i32_w]
              rfl
            refine take_ (i := 5) (N := some 179) (v := ?_) (a' := ?_) #[true, true, true, true, true, true, false, false, false, false, false, false, false, false, false, false, false, false, false, false, false, false, false, false, false, false, false, false] rfl rfl (by kernel_rfl) (fun _ _ _ h => h) (Or.inl ⟨by rfl, ?_⟩) hHeld ?_ ?_
            rotate_left
            · rintro w' ⟨s0, s1, s2, s3, s4⟩
              go_simp
              with_reducible rfl
            rotate_left
            · simp only [Act.put, List.setIfInBounds_toArray, List.set_cons_zero, List.set_cons_succ, i64_w, i32_w]
              rfl
            refine pure_ (i := 6) (N := some 180) (v := ?_) (a' := ?_) #[true, true, true, true, true, true, true, false, false, false, false, false, false, false, false, false, false, false, false, false, false, false, false, false, false, false, false, false] rfl rfl (by kernel_rfl) (fun _ _ _ h => h) (Or.inl ⟨by rfl, ?_⟩) ?_ ?_
            rotate_left
            · intro w'
              go_simp
              with_reducible rfl
            rotate_left
            · simp only [Act.put, List.setIfInBounds_toArray, List.set_cons_zero, List.set_cons_succ, i64_w, i32_w]
              rfl
            refine pure_ (i := 7) (N := some 181) (v := ?_) (a' := ?_) #[true, true, true, true, true, true, true, true, false, false, false, false, false, false, false, false, false, false, false, false, false, false, false, false, false, false, false, false] rfl rfl (by kernel_rfl) (fun _ _ _ h => h) (Or.inl ⟨by rfl, ?_⟩) ?_ ?_
            rotate_left
            · intro w'
              go_simp
              with_reducible rfl
            rotate_left
            · simp only [Act.put, List.setIfInBounds_toArray, List.set_cons_zero, List.set_cons_succ, i64_w, i32_w]
              rfl
            refine pure_ (i := 8) (N := some 182) (v := ?_) (a' := ?_) #[true, true, true, true, true, true, true, true, true, false, false, false, false, false, false, false, false, false, false, false, false, false, false, false, false, false, false, false] rfl rfl (by kernel_rfl) (fun _ _ _ h => h) (Or.inl ⟨by rfl, ?_⟩) ?_ ?_
            rotate_left
            · intro w'
              go_simp
              with_reducible rfl
            rotate_left
            · simp only [Act.put, List.setIfInBounds_toArray, List.set_cons_zero, List.set_cons_succ, i64_w, i32_w]
              rfl
            refine pure_ (i := 9) (N := some 183) (v := ?_) (a' := ?_) #[true, true, true, true, true, true, true, true, true, true, false, false, false, false, false, false, false, false, false, false, false, false, false, false, false, false, false, false] rfl rfl (by kernel_rfl) (fun _ _ _ h => h) (Or.inl ⟨by rfl, ?_⟩) ?_ ?_
            rotate_left
            · intro w'
              go_simp
              with_reducible rfl
            rotate_left
            · simp only [Act.put, List.setIfInBounds_toArray, List.set_cons_zero, List.set_cons_succ, i64_w, i32_w]
              rfl
            refine pure_ (i := 10) (N := some 184) (v := ?_) (a' := ?_) #[true, true, true, true, true, true, true, true, true, true, true, false, false, false, false, false, false, false, false, false, false, false, false, false, false, false, false, false] rfl rfl (by kernel_rfl) (fun _ _ _ h => h) (Or.inl ⟨by rfl, ?_⟩) ?_ ?_
            rotate_left
            · intro w'
              go_simp
              with_reducible rfl
            rotate_left
            · simp only [Act.put, List.setIfInBounds_toArray, List.set_cons_zero, List.set_cons_succ, i64_w, i32_w]
              rfl
            refine pure_ (i := 11) (N := some 185) (v := ?_) (a' := ?_) #[true, true, true, true, true, true, true, true, true, true, true, true, false, false, false, false, false, false, false, false, false, false, false, false, false, false, false, false] rfl rfl (by kernel_rfl) (fun _ _ _ h => h) (Or.inl ⟨by rfl, ?_⟩) ?_ ?_
            rotate_left
            · intro w'
              go_simp
              with_reducible rfl
            rotate_left
            · simp only [Act.put, List.setIfInBounds_toArray, List.set_cons_zero, List.set_cons_succ, i64_w, i32_w]
              rfl
            refine take_ (i := 12) (N := some 186) (v := ?_) (a' := ?_) #[true, true, true, true, true, true, true, true, true, true, true, true, true, false, false, false, false, false, false, false, false, false, false, false, false, false, false, false] rfl rfl (by kernel_rfl) (fun _ _ _ h => h) (Or.inl ⟨by rfl, ?_⟩) hHeld ?_ ?_
            rotate_left
            · rintro w' ⟨s0, s1, s2, s3, s4⟩
              go_simp
              with_reducible rfl
            rotate_left
            · simp only [Act.put, List.setIfInBounds_toArray, List.set_cons_zero, List.set_cons_succ, i64_w, i32_w]
              rfl
            refine pure_ (i := 13) (N := some 187) (v := ?_) (a' := ?_) #[true, true, true, true, true, true, true, true, true, true, true, true, true, true, false, false, false, false, false, false, false, false, false, false, false, false, false, false] rfl rfl (by kernel_rfl) (fun _ _ _ h => h) (Or.inl ⟨by rfl, ?_⟩) ?_ ?_
            rotate_left
            · intro w'
              go_simp
              with_reducible rfl
            rotate_left
            · simp only [Act.put, List.setIfInBounds_toArray, List.set_cons_zero, List.set_cons_succ, i64_w, i32_w]
              rfl
            refine pure_ (i := 14) (N := some 188) (v := ?_) (a' := ?_) #[true, true, true, true, true, true, true, true, true, true, true, true, true, true, true, false, false, false, false, false, false, false, false, false, false, false, false, false] rfl rfl (by kernel_rfl) (fun _ _ _ h => h) (Or.inl ⟨by rfl, ?_⟩) ?_ ?_
            rotate_left
            · intro w'
              go_simp
              with_reducible rfl
            rotate_left
            · simp only [Act.put, List.setIfInBounds_toArray, List.set_cons_zero, List.set_cons_succ, i64_w, i32_w]
              rfl
            refine pure_ (i := 15) (N := some 189) (v := ?_) (a' := ?_) #[true, true, true, true, true, true, true, true, true, true, true, true, true, true, true, true, false, false, false, false, false, false, false, false, false, false, false, false] rfl rfl (by kernel_rfl) (fun _ _ _ h => h) (Or.inl ⟨by rfl, ?_⟩) ?_ ?_
            rotate_left
            · intro w'
              go_simp
              with_reducible rfl
            rotate_left
            · simp only [Act.put, List.setIfInBounds_toArray, List.set_cons_zero, List.set_cons_succ, i64_w, i32_w]
              rfl
            refine pure_ (i := 16) (N := some 190) (v := ?_) (a' := ?_) #[true, true, true, true, true, true, true, true, true, true, true, true, true, true, true, true, true, false, false, false, false, false, false, false, false, false, false, false] rfl rfl (by kernel_rfl) (fun _ _ _ h => h) (Or.inl ⟨by rfl, ?_⟩) ?_ ?_
            rotate_left
            · intro w'
              go_simp
              with_reducible rfl
            rotate_left
            · simp only [Act.put, List.setIfInBounds_toArray, List.set_cons_zero, List.set_cons_succ, i64_w, i32_w]
              rfl
            refine pure_ (i := 18) (N := some 192) (v := ?_) (a' := ?_) #[true, true, true, true, true, true, true, true, true, true, true, true, true, true, true, true, true, false, true, false, false, false, false, false, false, false, false, false] rfl rfl (by kernel_rfl) (fun _ _ _ h => h) (Or.inl ⟨by rfl, ?_⟩) ?_ ?_
            rotate_left
            · intro w'
              go_simp
              with_reducible rfl
            rotate_left
            · simp only [Act.put, List.setIfInBounds_toArray, List.set_cons_zero, List.set_cons_succ, i64_w, i32_w]
              rfl
            refine pure_ (i := 19) (N := some 193) (v := ?_) (a' := ?_) #[true, true, true, true, true, true, true, true, true, true, true, true, true, true, true, true, true, false, true, true, false, false, false, false, false, false, false, false] rfl rfl (by kernel_rfl) (fun _ _ _ h => h) (Or.inl ⟨by rfl, ?_⟩) ?_ ?_
            rotate_left
            · intro w'
              go_simp
              with_reducible rfl
            rotate_left
            · simp only [Act.put, List.setIfInBounds_toArray, List.set_cons_zero, List.set_cons_succ, i64_w, i32_w]
              rfl
            refine pure_ (i := 21) (N := some 195) (v := ?_) (a' := ?_) #[true, true, true, true, true, true, true, true, true, true, true, true, true, true, true, true, true, false, true, true, false, true, false, false, false, false, false, false] rfl rfl (by kernel_rfl) (fun _ _ _ h => h) (Or.inl ⟨by rfl, ?_⟩) ?_ ?_
            rotate_left
            · intro w'
              go_simp
              with_reducible rfl
            rotate_left
            · simp only [Act.put, List.setIfInBounds_toArray, List.set_cons_zero, List.set_cons_succ, i64_w, i32_w]
              rfl
            refine pure_ (i := 22) (N := some 196) (v := ?_) (a' := ?_) #[true, true, true, true, true, true, true, true, true, true, true, true, true, true, true, true, true, false, true, true, false, true, true, false, false, false, false, false] rfl rfl (by kernel_rfl) (fun _ _ _ h => h) (Or.inl ⟨by rfl, ?_⟩) ?_ ?_
            rotate_left
            · intro w'
              go_simp
              with_reducible rfl
            rotate_left
            · simp only [Act.put, List.setIfInBounds_toArray, List.set_cons_zero, List.set_cons_succ, i64_w, i32_w]
              rfl
            refine take_ (i := 17) (N := some 191) (v := ?_) (a' := ?_) #[true, true, true, true, true, true, true, true, true, true, true, true, true, true, true, true, true, true, true, true, false, true, true, false, false, false, false, false] rfl rfl (by kernel_rfl) (fun _ _ _ h => h) (Or.inl ⟨by rfl, ?_⟩) hHeld ?_ ?_
            rotate_left
            · rintro w' ⟨s0, s1, s2, s3, s4⟩
              go_simp
              with_reducible rfl
            rotate_left
            · simp only [Act.put, List.setIfInBounds_toArray, List.set_cons_zero, List.set_cons_succ, i64_w, i32_w]
              rfl
            refine take_ (i := 20) (N := some 194) (v := ?_) (a' := ?_) #[true, true, true, true, true, true, true, true, true, true, true, true, true, true, true, true, true, true, true, true, true, true, true, false, false, false, false, false] rfl rfl (by kernel_rfl) (fun _ _ _ h => h) (Or.inl ⟨by rfl, ?_⟩) hHeld ?_ ?_
            rotate_left
            · rintro w' ⟨s0, s1, s2, s3, s4⟩
              go_simp
              with_reducible rfl
            rotate_left
            · simp only [Act.put, List.setIfInBounds_toArray, List.set_cons_zero, List.set_cons_succ, i64_w, i32_w]
              rfl
            refine pure_ (i := 23) (N := some 197) (v := ?_) (a' := ?_) #[true, true, true, true, true, true, true, true, true, true, true, true, true, true, true, true, true, true, true, true, true, true, true, true, false, false, false, false] rfl rfl (by kernel_rfl) (fun _ _ _ h => h) (Or.inl ⟨by rfl, ?_⟩) ?_ ?_
            rotate_left
            · intro w'
              go_simp
              with_reducible rfl
            rotate_left
            · simp only [Act.put, List.setIfInBounds_toArray, List.set_cons_zero, List.set_cons_succ, i64_w, i32_w]
              rfl
            refine take_ (i := 24) (N := some 198) (v := ?_) (a' := ?_) #[true, true, true, true, true, true, true, true, true, true, true, true, true, true, true, true, true, true, true, true, true, true, true, true, true, false, false, false] rfl rfl (by kernel_rfl) (fun _ _ _ h => h) (Or.inl ⟨by rfl, ?_⟩) hHeld ?_ ?_
            rotate_left
            · rintro w' ⟨s0, s1, s2, s3, s4⟩
              go_simp
              with_reducible rfl
            rotate_left
            · simp only [Act.put, List.setIfInBounds_toArray, List.set_cons_zero, List.set_cons_succ, i64_w, i32_w]
              rfl
            refine pure_ (i := 25) (N := some 199) (v := ?_) (a' := ?_) #[true, true, true, true, true, true, true, true, true, true, true, true, true, true, true, true, true, true, true, true, true, true, true, true, true, true, false, false] rfl rfl (by kernel_rfl) (fun _ _ _ h => h) (Or.inl ⟨by rfl, ?_⟩) ?_ ?_
            rotate_left
            · intro w'
              go_simp
              with_reducible rfl
            rotate_left
            · simp only [Act.put, List.setIfInBounds_toArray, List.set_cons_zero, List.set_cons_succ, i64_w, i32_w]
              rfl
            refine pure_ (i := 26) (N := some 200) (v := ?_) (a' := ?_) #[true, true, true, true, true, true, true, true, true, true, true, true, true, true, true, true, true, true, true, true, true, true, true, true, true, true, true, false] rfl rfl (by kernel_rfl) (fun _ _ _ h => h) (Or.inl ⟨by rfl, ?_⟩) ?_ ?_
            rotate_left
            · intro w'
              go_simp
              with_reducible rfl
            rotate_left
            · simp only [Act.put, List.setIfInBounds_toArray, List.set_cons_zero, List.set_cons_succ, i64_w, i32_w]
              rfl
            refine pure_ (i := 27) (N := some 201) (v := ?_) (a' := ?_) #[true, true, true, true, true, true, true, true, true, true, true, true, true, true, true, true, true, true, true, true, true, true, true, true, true, true, true, true] rfl rfl (by kernel_rfl) (fun _ _ _ h => h) (Or.inl ⟨by rfl, ?_⟩) ?_ ?_
            rotate_left
            · intro w'
              go_simp
              with_reducible rfl
            rotate_left
            · simp only [Act.put, List.setIfInBounds_toArray, List.set_cons_zero, List.set_cons_succ, i64_w, i32_w]
              rfl
            refine done_ (by kernel_rfl) ?_
            go_wp2_with fail
            go_roundw
            case rel => exact ⟨2, by omega, rfl, HF8, HN8⟩
            case measure => simp [intOf]
end
end Go.Proofs.Ytjiboeokockdcaa.Q

