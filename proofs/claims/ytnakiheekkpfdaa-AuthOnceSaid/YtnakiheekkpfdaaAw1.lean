/- A desk's functions, walked: what a desk is, time. No condition but those typed. -/
import Derived.Test.YtnakiheekkpfdaaWalk0
import Derived.Test.YtnakiheekkpfdaaBlocks
import Derived.Maps.RangeWalk
import Derived.Sort.OwnSorted
import Derived.Lib.SliceRun
import Derived.Test.YtnakiheekkpfdaaShelf
import Derived.Test.YtnakiheekkpfdaaLaid
import Derived.Test.YtnakiheekkpfdaaWords
namespace Go.Proofs.Ytnakiheekkpfdaa.Q
open Go.RowKit Go.Maps Go.Sort Go.Shelf Go.Proofs.YtnakiheekkpfdaaW.PrintWords Go.Proofs.YtnakiheekkpfdaaW.PrintLast Go.Proofs.YtnakiheekkpfdaaW.PrintMore
attribute [local go_sem] max2_int min2_int max_two min_two max_three min_three max_four min_four   -- for this text's walks alone
set_option linter.unusedVariables false
set_option linter.unusedSimpArgs false
set_option maxRecDepth 100000
/-- What is known of a token. -/
structure Tok where
  bad : Bool
  ss : List ByteArray
  til : Int
abbrev tokC (x : Tok) (v : Value) : Array Value := #[.bool x.bad, v, .int .i64 x.til]
abbrev KF := ByteArray → Option Tok
abbrev AF := ByteArray → Option (List Int)
def kl (k : ByteArray) : Lit := .string k.data.toList
theorem kl_inj {a b : ByteArray} (h : kl a = kl b) : a = b := by
  cases a; cases b
  simp only [kl, Lit.string.injEq] at h
  exact congrArg ByteArray.mk (Array.toList_inj.1 h)
theorem kl_ne {a b : ByteArray} (h : a ≠ b) : kl a ≠ kl b := fun e => h (kl_inj e)
theorem kl_key (k : ByteArray) : WideAt.IsKeyLit (kl k) := by simp [kl, WideAt.IsKeyLit]
/-- Each element is read as itself. -/
def RV (v : Value) : Option (DataW Value × List MemPlace) := some (.held v, [])
theorem key9 : Keyed Try.prog 9 := string_keyed Try.underlying9
theorem keyOf9 {s : ByteArray} (h : s.size ≤ maxLen) : keyOf Try.prog 9 (.string s) = some (kl s) := Go.WideMaps.keyOf_string_mk Try.underlying9 h
theorem zero56 (w : World) : (zeroValue 56).run Try.prog w = .ok (.agg #[.bool false, .slice none 0 0, .int .i64 0]) w := by kernel_rfl
theorem zero31 (w : World) : (zeroValue 31).run Try.prog w = .ok (.slice none 0 0) w := by kernel_rfl
theorem info9 : (Try.prog.info? 9).map (fun i => (i.zero, i.size, i.bytes)) = some (some (.string ByteArray.empty), 1, 16) := by kernel_rfl
theorem info3 : (Try.prog.info? 3).map (fun i => (i.zero, i.size, i.bytes)) = some (some (.int .i64 0), 1, 8) := by kernel_rfl
theorem w64n {n : Nat} (h : n < 9223372036854775807) : wrap64 ((n : Int) + 1) = ((n + 1 : Nat) : Int) := by
  unfold wrap64
  omega
/-! ### Which blocks desks hold -/
def keyed : Obj → Prop
  | .cells _ t _ => t = 50 ∨ t = 3
  | .map _ _ => True
  | _ => False
theorem not_keyed {cs : Array Value} {t : TypeId} (h1 : t ≠ 50) (h2 : t ≠ 3) : ¬ keyed (.cells cs t) := by
  rintro (h | h)
  · exact h1 h
  · exact h2 h
abbrev Ls (base : Nat) (w : World) (v : Value) (ss : List ByteArray) : Prop := Kd.string.R 9 w base (fun _ => True) v ss
abbrev Is (w : World) (F : Nat → Prop) (v : Value) (l : List Int) : Prop := (Kd.int .i64).R 3 w 0 F v l
/-- What has not turned: the blocks of F that desks hold, and rows of texts. -/
structure St (F : Nat → Prop) (w w' : World) : Prop where
  size : w.heap.size ≤ w'.heap.size
  blk : ∀ (i : Nat) (o : Obj), w.heap[i]? = some o → F i → keyed o → w'.heap[i]? = some o
  str : ∀ (i : Nat) (cs : Array Value), w.heap[i]? = some (.cells cs 9 (0, 0)) → w'.heap[i]? = some (.cells cs 9 (0, 0))
theorem St.of_below {F : Nat → Prop} {w w' : World} (h : Below w.heap.size w w') : St F w w' :=
  ⟨h.size, fun i o ho _ _ => (h.block i (Array.getElem?_eq_some_iff.1 ho).1).trans ho, fun i cs ho => (h.block i (Array.getElem?_eq_some_iff.1 ho).1).trans ho⟩
/-- What a call may turn: blocks of F that desks hold. -/
structure Ku (F : Nat → Prop) (w w' : World) : Prop where
  os : w'.os = w.os
  tape : w'.tape = w.tape
  output : w'.output = w.output
  size : w.heap.size ≤ w'.heap.size
  low : ∀ i, i < w.heap.size → ¬ F i → w'.heap[i]? = w.heap[i]?
  block : ∀ (i : Nat) (o : Obj), w.heap[i]? = some o → ¬ keyed o → w'.heap[i]? = some o
/-- F, and all that is new. -/
def Gr (F : Nat → Prop) (w : World) : Nat → Prop := fun i => F i ∨ w.heap.size ≤ i
theorem Ku.refl (F : Nat → Prop) (w : World) : Ku F w w := ⟨rfl, rfl, rfl, Nat.le_refl _, fun _ _ _ => rfl, fun _ _ h _ => h⟩
theorem Ku.of_below {F : Nat → Prop} {w w' : World} (h : Below w.heap.size w w') : Ku F w w' :=
  ⟨h.os, h.tape, h.output, h.size, fun i hi _ => h.block i hi, fun i o ho _ => (h.block i (Array.getElem?_eq_some_iff.1 ho).1).trans ho⟩
theorem Ku.mono {F G : Nat → Prop} {w w' : World} (h : Ku F w w') (hm : ∀ i, F i → G i) : Ku G w w' :=
  ⟨h.os, h.tape, h.output, h.size, fun i hi hg => h.low i hi fun e => hg (hm i e), h.block⟩
theorem Ku.trans {F : Nat → Prop} {a b c : World} (h : Ku F a b) (k : Ku (Gr F a) b c) : Ku F a c :=
  ⟨k.os.trans h.os, k.tape.trans h.tape, k.output.trans h.output, Nat.le_trans h.size k.size, fun i hi hF => (k.low i (Nat.lt_of_lt_of_le hi h.size) (fun e => e.elim hF (fun e => by omega))).trans (h.low i hi hF), fun i o ho hk => k.block i o (h.block i o ho hk) hk⟩
theorem Ku.trans' {F : Nat → Prop} {a b c : World} (h : Ku F a b) (k : Ku F b c) : Ku F a c := h.trans (k.mono fun _ e => .inl e)
theorem Gr.twice {F : Nat → Prop} {a b : World} (h : a.heap.size ≤ b.heap.size) (i : Nat) (hi : Gr (Gr F a) b i) : Gr F a i := by
  rcases hi with hi | hi
  · exact hi
  · exact .inr (Nat.le_trans h hi)
theorem Ku.grown {F : Nat → Prop} {w w' : World} {row : Option Nat} (g : w.grownBy w' row) (hr : ∀ j, row = some j → w.heap.size ≤ j ∨ (F j ∧ ∃ o, w.heap[j]? = some o ∧ keyed o)) : Ku F w w' :=
  ⟨g.os, g.tape, g.output, g.size, fun i hi hF => g.block i hi (fun e => by
    rcases hr i e.symm with h | ⟨h, _⟩
    · omega
    · exact hF h), fun i o ho hk => (g.block i (Array.getElem?_eq_some_iff.1 ho).1 (fun e => by
    rcases hr i e.symm with h | ⟨_, o', h1, h2⟩
    · have := (Array.getElem?_eq_some_iff.1 ho).1
      omega
    · rw [ho] at h1
      cases h1
      exact hk h2)).trans ho⟩
theorem Ku.below {F : Nat → Prop} {B : Nat} {w w' : World} (h : Ku F w w') (hF : ∀ i, F i → B ≤ i) (hB : B ≤ w.heap.size) : Below B w w' :=
  ⟨h.os, h.tape, h.output, h.size, fun i hi => h.low i (Nat.lt_of_lt_of_le hi hB) fun e => by have := hF i e; omega⟩
theorem not_keyed9 {cs : Array Value} : ¬ keyed (.cells cs 9) := not_keyed (by decide) (by decide)
/-- What one desk's call turns, another one does not mind. -/
theorem Ku.st {F G : Nat → Prop} {w w' : World} (h : Ku F w w') (hd : ∀ i, G i → ¬ F i) : St G w w' :=
  ⟨h.size, fun i o ho hg _ => (h.low i (Array.getElem?_eq_some_iff.1 ho).1 (hd i hg)).trans ho, fun i cs ho => h.block i _ ho not_keyed9⟩
theorem St.grown {F : Nat → Prop} {w w' : World} {row : Option Nat} (g : w.grownBy w' row) (hr : ∀ j, row = some j → w.heap.size ≤ j ∨ (¬ F j ∧ ∃ o, w.heap[j]? = some o ∧ keyed o)) : St F w w' :=
  ⟨g.size, fun i o ho hF _ => (g.block i (Array.getElem?_eq_some_iff.1 ho).1 (fun e => by
    rcases hr i e.symm with h | ⟨h, _⟩
    · have := (Array.getElem?_eq_some_iff.1 ho).1
      omega
    · exact h hF)).trans ho, fun i cs ho => (g.block i (Array.getElem?_eq_some_iff.1 ho).1 (fun e => by
    rcases hr i e.symm with h | ⟨_, o', h1, h2⟩
    · have := (Array.getElem?_eq_some_iff.1 ho).1
      omega
    · rw [ho] at h1
      cases h1
      exact not_keyed9 h2)).trans ho⟩
theorem iter_at {w : World} {R : Value → Option (DataW Value × List MemPlace)} {m r n : Nat} {D : DataW Value} {left : Lit → Bool} {cnt : Nat} (h : w.ranges Try.prog 9 R m r n D left cnt) : ∃ b since seen c0, w.heap[r]? = some (.mapIter b since seen c0) := by
  obtain ⟨es, clock, since, seen, c0, _, _, _, _, hr, _⟩ := h
  exact ⟨_, _, _, _, hr⟩
theorem St.of_iter {F : Nat → Prop} {w w' : World} {R : Value → Option (DataW Value × List MemPlace)} {m r n : Nat} {D : DataW Value} {left : Lit → Bool} {cnt : Nat} (h : w.ranges Try.prog 9 R m r n D left cnt) (g : w.grownBy w' (some r)) : St F w w' := by
  obtain ⟨b, since, seen, c0, hr⟩ := iter_at h
  refine ⟨g.size, fun i o ho _ hk => ?_, fun i cs ho => ?_⟩
  · rw [g.block i (Array.getElem?_eq_some_iff.1 ho).1 (fun e => by
      cases e
      rw [hr] at ho
      cases ho
      exact hk)]
    exact ho
  · rw [g.block i (Array.getElem?_eq_some_iff.1 ho).1 (fun e => by
      cases e
      rw [hr] at ho
      cases ho)]
    exact ho
theorem Ku.step {F : Nat → Prop} {a b c : World} {row : Option Nat} (h : Ku F a b) (g : b.grownBy c row) (hr : ∀ j, row = some j → a.heap.size ≤ j ∨ (F j ∧ ∃ o, b.heap[j]? = some o ∧ keyed o)) : Ku F a c :=
  ⟨g.os.trans h.os, g.tape.trans h.tape, g.output.trans h.output, Nat.le_trans h.size g.size, fun i hi hF => (g.block i (Nat.lt_of_lt_of_le hi h.size) (fun e => by
    rcases hr i e.symm with h | ⟨h, _⟩
    · omega
    · exact hF h)).trans (h.low i hi hF), fun i o ho hk => by
    have hb := h.block i o ho hk
    refine (g.block i (Array.getElem?_eq_some_iff.1 hb).1 (fun e => ?_)).trans hb
    rcases hr i e.symm with h | ⟨_, o', h1, h2⟩
    · have := (Array.getElem?_eq_some_iff.1 ho).1
      omega
    · rw [hb] at h1
      cases h1
      exact hk h2⟩
theorem grownBy_none {w w' : World} (h : Below w.heap.size w w') : w.grownBy w' none := ⟨h.os, h.tape, h.output, h.size, fun i hi _ => h.block i hi⟩
theorem below_drewN2 {B : Nat} {a w : World} (h : Below B a w) (n : Nat) : Below B a (w.drewN n) := ⟨h.os, h.tape, h.output, h.size, h.block⟩
theorem Ls.st {F : Nat → Prop} {base : Nat} {w w' : World} {v : Value} {ss : List ByteArray} (h : Ls base w v ss) (hk : St F w w') : Ls base w' v ss :=
  Kd.R_mono (Kd.R_step (Kd.R_bound h) (fun k ho hlt => by
    obtain ⟨_, _, _, q, hq, cs, hc⟩ := ho
    obtain rfl : q = 9 := by simpa [Kd.string, Kd.scalar] using hq
    rw [hc]
    exact hk.str k _ hc)) (fun _ _ => trivial)
theorem Ls.ku {F : Nat → Prop} {base : Nat} {w w' : World} {v : Value} {ss : List ByteArray} (h : Ls base w v ss) (hk : Ku F w w') : Ls base w' v ss := Ls.st h (Ku.st hk (G := fun _ => False) fun _ e => e.elim)
theorem Ls.below {base : Nat} {w w' : World} {v : Value} {ss : List ByteArray} (h : Ls base w v ss) (hk : Below w.heap.size w w') : Ls base w' v ss := Ls.ku h (Ku.of_below (F := fun _ => False) hk)
theorem Ls.C {base : Nat} {w : World} {A : Option Addr} {c : Nat} {ss : List ByteArray} (h : Ls base w (.slice A ss.length c) ss) : Kd.string.C w A ss.length ss := (Kd.V_reads' (Kd.R_V (base' := 0) h)).2.2
theorem At.ku {F : Nat → Prop} {b : Nat} {cs : Array Value} {t : TypeId} {w w' : World} (h : Blk.At b cs t w) (h1 : t ≠ 50) (h2 : t ≠ 3) (hn : Ku F w w') : Blk.At b cs t w' := hn.block b _ h (not_keyed h1 h2)
/-! ### A desk -/
/-- A desk that New made: F holds its blocks; X is a key of which the row of who waits is not told. -/
structure Dq (F : Nat → Prop) (X : Option ByteArray) (N p mk ma : Nat) (sv lv : ByteArray → Value) (Dk Da : DataW Value) (t : Int) (kn : KF) (qs : AF) (w : World) : Prop where
  ownK : w.ownsMap Try.prog 9 RV mk N Dk
  hasK : ∀ k, Maps.has Dk (kl k) = (kn k).isSome
  atK : ∀ k x, kn k = some x → ∀ z, Dk.atKey (kl k) z = .held (.agg (tokC x (sv k)))
  lsK : ∀ k x, kn k = some x → Ls 0 w (sv k) x.ss
  ownA : w.ownsMap Try.prog 9 RV ma N Da
  hasA : ∀ k, Maps.has Da (kl k) = (qs k).isSome
  atA : ∀ k l, qs k = some l → ∀ z, Da.atKey (kl k) z = .held (lv k)
  lsA : ∀ k l, qs k = some l → some k ≠ X → Is w F (lv k) l
  inj : ∀ k k' l l' b, qs k = some l → qs k' = some l' → some k ≠ X → some k' ≠ X → (lv k).ownBlock = some b → (lv k').ownBlock = some b → k = k'
  few : ∀ k l, qs k = some l → l.length ≤ N
  foot : F p ∧ F mk ∧ F ma
  ne : mk ≠ ma
  pl : Blk.At p #[.int .i64 t, .map (some mk), .map (some ma)] 50 w
def DA (F : Nat → Prop) (N p : Nat) (t : Int) (kn : KF) (qs : AF) (w : World) : Prop := ∃ mk ma sv lv Dk Da, Dq F none N p mk ma sv lv Dk Da t kn qs w
section
variable {F G : Nat → Prop} {X : Option ByteArray} {s : ByteArray} {N p mk ma : Nat} {sv lv : ByteArray → Value} {Dk Da : DataW Value} {t : Int} {kn : KF} {qs : AF} {w w' : World}
theorem own_at {k : TypeId} {R : Value → Option (DataW Value × List MemPlace)} {m n : Nat} {D : DataW Value} (h : w.ownsMap Try.prog k R m n D) (hn : w'.heap[m]? = w.heap[m]?) : w'.ownsMap Try.prog k R m n D := by
  obtain ⟨es, cl, hb, r⟩ := h
  exact ⟨es, cl, hn.trans hb, r⟩
theorem own_block {k : TypeId} {R : Value → Option (DataW Value × List MemPlace)} {m n : Nat} {D : DataW Value} (h : w.ownsMap Try.prog k R m n D) : ∃ es cl, w.heap[m]? = some (.map es cl) := by
  obtain ⟨es, cl, hb, _⟩ := h
  exact ⟨es, cl, hb⟩
theorem Dq.mono (h : Dq F X N p mk ma sv lv Dk Da t kn qs w) (hF : ∀ i, F i → G i) : Dq G X N p mk ma sv lv Dk Da t kn qs w :=
  { h with lsA := fun k l hk hx => Kd.R_mono (h.lsA k l hk hx) hF, foot := ⟨hF _ h.foot.1, hF _ h.foot.2.1, hF _ h.foot.2.2⟩ }
theorem Dq.more (h : Dq F X N p mk ma sv lv Dk Da t kn qs w) {N' : Nat} (hN : N ≤ N') : Dq F X N' p mk ma sv lv Dk Da t kn qs w :=
  { h with ownK := h.ownK.mono hN, ownA := h.ownA.mono hN, few := fun k l hk => Nat.le_trans (h.few k l hk) hN }
/-- A desk stays where its blocks stay. -/
theorem Dq.st (h : Dq F X N p mk ma sv lv Dk Da t kn qs w) (hn : St F w w') : Dq F X N p mk ma sv lv Dk Da t kn qs w' := by
  obtain ⟨e1, c1, b1⟩ := own_block h.ownK
  obtain ⟨e2, c2, b2⟩ := own_block h.ownA
  exact { h with
    ownK := own_at h.ownK (by rw [b1]; exact hn.blk _ _ b1 h.foot.2.1 trivial)
    ownA := own_at h.ownA (by rw [b2]; exact hn.blk _ _ b2 h.foot.2.2 trivial)
    lsK := fun k x hk => Ls.st (h.lsK k x hk) hn
    lsA := fun k l hk hx => Kd.R_mono (Kd.R_step (Kd.R_bound (h.lsA k l hk hx)) (fun i hi hl => by
      obtain ⟨hF, _, _, q, hq, cs, hc⟩ := hi
      obtain rfl : q = 3 := by simpa [Kd.int, Kd.scalar] using hq
      rw [hc]
      exact hn.blk i _ hc hF (.inr rfl))) (fun _ hi => hi.1)
    pl := hn.blk _ _ h.pl h.foot.1 (.inl rfl) }
theorem DA.st (h : DA F N p t kn qs w) (hn : St F w w') : DA F N p t kn qs w' := by
  obtain ⟨mk, ma, sv, lv, Dk, Da, h⟩ := h
  exact ⟨mk, ma, sv, lv, Dk, Da, h.st hn⟩
theorem DA.below (h : DA F N p t kn qs w) (hb : Below w.heap.size w w') : DA F N p t kn qs w' := h.st (.of_below hb)
theorem DA.mono (h : DA F N p t kn qs w) (hF : ∀ i, F i → G i) : DA G N p t kn qs w := by
  obtain ⟨mk, ma, sv, lv, Dk, Da, h⟩ := h
  exact ⟨mk, ma, sv, lv, Dk, Da, h.mono hF⟩
theorem DA.more (h : DA F N p t kn qs w) {N' : Nat} (hN : N ≤ N') : DA F N' p t kn qs w := by
  obtain ⟨mk, ma, sv, lv, Dk, Da, h⟩ := h
  exact ⟨mk, ma, sv, lv, Dk, Da, h.more hN⟩
theorem Dq.p_mk (h : Dq F X N p mk ma sv lv Dk Da t kn qs w) : p ≠ mk ∧ p ≠ ma := by
  have h1 := h.pl
  obtain ⟨e1, c1, b1⟩ := own_block h.ownK
  obtain ⟨e2, c2, b2⟩ := own_block h.ownA
  unfold Blk.At at h1
  exact ⟨fun e => by (rw [e, b1] at h1; cases h1), fun e => by (rw [e, b2] at h1; cases h1)⟩
theorem Dq.row (h : Dq F X N p mk ma sv lv Dk Da t kn qs w) {k : ByteArray} {l : List Int} (hk : qs k = some l) (hx : some k ≠ X) {b : Nat} (hb : (lv k).ownBlock = some b) : F b ∧ b < w.heap.size ∧ b ≠ p ∧ b ≠ mk ∧ b ≠ ma ∧ ∃ cs, w.heap[b]? = some (.cells cs 3) := by
  have hR := h.lsA k l hk hx
  obtain ⟨cs, hc⟩ := Kd.R_typed hR b hb
  refine ⟨hR.1 b hb, Kd.R_lt hR b hb, fun e => ?_, fun e => ?_, fun e => ?_, cs, hc⟩
  · have h1 := h.pl
    unfold Blk.At at h1
    rw [← e, hc] at h1
    cases h1
  · obtain ⟨e1, c1, b1⟩ := own_block h.ownK
    rw [← e, hc] at b1
    cases b1
  · obtain ⟨e1, c1, b1⟩ := own_block h.ownA
    rw [← e, hc] at b1
    cases b1
/-- The desk's time is now t'. -/
theorem Dq.time (h : Dq F X N p mk ma sv lv Dk Da t kn qs w) {t' : Int} (hp : Blk.At p #[.int .i64 t', .map (some mk), .map (some ma)] 50 w') (ho : ∀ i, i ≠ p → i < w.heap.size → w'.heap[i]? = w.heap[i]?) : Dq F X N p mk ma sv lv Dk Da t' kn qs w' :=
  { h with
    ownK := own_at h.ownK (ho _ h.p_mk.1.symm h.ownK.lt)
    ownA := own_at h.ownA (ho _ h.p_mk.2.symm h.ownA.lt)
    lsK := fun k x hk => Kd.R_mono (Kd.R_step (Kd.R_bound (h.lsK k x hk)) (fun i hi hlt => by
      obtain ⟨_, _, _, q, hq, cs, hc⟩ := hi
      obtain rfl : q = 9 := by simpa [Kd.string, Kd.scalar] using hq
      refine ho i (fun e => ?_) hlt
      have h1 := h.pl
      unfold Blk.At at h1
      rw [← e, hc] at h1
      cases h1)) (fun _ _ => trivial)
    lsA := fun k l hk hx => Kd.R_mono (Kd.R_step (Kd.R_tight2 rfl (h.lsA k l hk hx)) (fun i hi hlt => ho i (fun e => (h.row hk hx hi.1.symm).2.2.1 e) hlt)) (fun i hi => hi.2)
    pl := hp }
def upd {α : Type} (f : ByteArray → Option α) (s : ByteArray) (x : Option α) : ByteArray → Option α := fun k => if k = s then x else f k
theorem upd_same {α : Type} (f : ByteArray → Option α) (s : ByteArray) (x : Option α) : upd f s x s = x := by simp [upd]
theorem upd_other {α : Type} (f : ByteArray → Option α) {s k : ByteArray} (h : k ≠ s) (x : Option α) : upd f s x k = f k := by simp [upd, h]
theorem has_upd {α : Type} {D : DataW Value} {f : ByteArray → Option α} (hD : Maps.IsMap D) (h : ∀ k, Maps.has D (kl k) = (f k).isSome) (s : ByteArray) (d : DataW Value) (x : α) : ∀ k, Maps.has (D.put (kl s) d) (kl k) = (upd f s (some x) k).isSome := fun k => by
  by_cases e : k = s
  · subst e; rw [upd_same, Maps.has_put_same hD (kl_key _)]; rfl
  · rw [upd_other f e, Maps.has_put_other (kl_ne e), h k]
theorem has_del {α : Type} {D : DataW Value} {f : ByteArray → Option α} (h : ∀ k, Maps.has D (kl k) = (f k).isSome) (s : ByteArray) : ∀ k, Maps.has (D.del (kl s)) (kl k) = (upd f s none k).isSome := fun k => by
  by_cases e : k = s
  · subst e; rw [upd_same, Maps.has_del_same]; rfl
  · rw [upd_other f e, Maps.has_del_other (kl_ne e), h k]
theorem upd_none {α : Type} {f : ByteArray → Option α} {s k : ByteArray} {y : α} (h : upd f s none k = some y) : k ≠ s ∧ f k = some y := by
  by_cases e : k = s
  · subst e; rw [upd_same] at h; cases h
  · rw [upd_other f e] at h; exact ⟨e, h⟩
theorem At.but {b i : Nat} {cs : Array Value} {t : TypeId} (h : Blk.At b cs t w) (hk : ∀ (j : Nat) (o : Obj), w.heap[j]? = some o → j ≠ i → w'.heap[j]? = some o) (hne : b ≠ i) : Blk.At b cs t w' := hk _ _ h hne
theorem own_but {k : TypeId} {R : Value → Option (DataW Value × List MemPlace)} {m n i : Nat} {D : DataW Value} (h : w.ownsMap Try.prog k R m n D) (hk : ∀ (j : Nat) (o : Obj), w.heap[j]? = some o → j ≠ i → w'.heap[j]? = some o) (hne : m ≠ i) : w'.ownsMap Try.prog k R m n D := by
  obtain ⟨es, cl, hb, r⟩ := h
  exact ⟨es, cl, hk _ _ hb hne, r⟩
theorem Ls.but {i base : Nat} {v : Value} {ss : List ByteArray} (h : Ls base w v ss) (hk : ∀ (j : Nat) (o : Obj), w.heap[j]? = some o → j ≠ i → w'.heap[j]? = some o) (hm : ∃ o, w.heap[i]? = some o ∧ keyed o) : Ls base w' v ss :=
  Kd.R_mono (Kd.R_step (Kd.R_bound h) (fun j hi hlt => by
    obtain ⟨_, _, _, q, hq, cs, hc⟩ := hi
    obtain rfl : q = 9 := by simpa [Kd.string, Kd.scalar] using hq
    rw [hc]
    refine hk j _ hc fun e => ?_
    obtain ⟨o, h1, h2⟩ := hm
    rw [← e, hc] at h1
    cases h1
    exact not_keyed9 h2)) (fun _ _ => trivial)
theorem Dq.lsA_but {i : Nat} (h : Dq F X N p mk ma sv lv Dk Da t kn qs w) (hk : ∀ (j : Nat) (o : Obj), w.heap[j]? = some o → j ≠ i → w'.heap[j]? = some o) (hm : i = mk ∨ i = ma) : ∀ k l, qs k = some l → some k ≠ X → Is w' F (lv k) l := fun k l hq hx =>
  Kd.R_mono (Kd.R_step (Kd.R_tight2 rfl (h.lsA k l hq hx)) (fun j hj hlt => by
    obtain ⟨_, _, _, h1, h2, cs, hc⟩ := h.row hq hx hj.1.symm
    rw [hc]
    exact hk j _ hc fun e => by
      rcases hm with e2 | e2
      · exact h1 (e.trans e2)
      · exact h2 (e.trans e2))) (fun j hj => hj.2)
theorem Dq.map_k (h : Dq F X N p mk ma sv lv Dk Da t kn qs w) : ∃ o, w.heap[mk]? = some o ∧ keyed o := by
  obtain ⟨es, cl, hb⟩ := own_block h.ownK
  exact ⟨_, hb, trivial⟩
theorem Dq.map_a (h : Dq F X N p mk ma sv lv Dk Da t kn qs w) : ∃ o, w.heap[ma]? = some o ∧ keyed o := by
  obtain ⟨es, cl, hb⟩ := own_block h.ownA
  exact ⟨_, hb, trivial⟩
/-- A token that is known now. -/
theorem Dq.know (h : Dq F X N p mk ma sv lv Dk Da t kn qs w) {s : ByteArray} {x : Tok} {v : Value} {N' : Nat} (hN : N ≤ N') (ho : w'.ownsMap Try.prog 9 RV mk N' (Dk.put (kl s) (.held (.agg (tokC x v))))) (hk : ∀ (j : Nat) (o : Obj), w.heap[j]? = some o → j ≠ mk → w'.heap[j]? = some o) (hv : Ls 0 w' v x.ss) : Dq F X N' p mk ma (fun k => if k = s then v else sv k) lv (Dk.put (kl s) (.held (.agg (tokC x v)))) Da t (upd kn s (some x)) qs w' :=
  { h with
    ownK := ho
    hasK := has_upd h.ownK.isMap h.hasK s _ x
    atK := fun k y hy z => by
      by_cases e : k = s
      · subst e
        rw [upd_same] at hy
        cases hy
        rw [Maps.atKey_put_same h.ownK.isMap (kl_key _)]
        simp
      · rw [upd_other kn e] at hy
        rw [Maps.atKey_put_other (kl_ne e), h.atK k y hy z]
        simp [e]
    lsK := fun k y hy => by
      by_cases e : k = s
      · subst e
        rw [upd_same] at hy
        cases hy
        simpa using hv
      · rw [upd_other kn e] at hy
        simp only [e, if_false]
        exact Ls.but (h.lsK k y hy) hk h.map_k
    ownA := (own_but h.ownA hk h.ne.symm).mono hN
    lsA := h.lsA_but hk (.inl rfl)
    few := fun k l hl => Nat.le_trans (h.few k l hl) hN
    pl := At.but h.pl hk h.p_mk.1 }
/-- A token that is known no longer. -/
theorem Dq.forget (h : Dq F X N p mk ma sv lv Dk Da t kn qs w) {s : ByteArray} (ho : w'.ownsMap Try.prog 9 RV mk N (Dk.del (kl s))) (hk : ∀ (j : Nat) (o : Obj), w.heap[j]? = some o → j ≠ mk → w'.heap[j]? = some o) : Dq F X N p mk ma sv lv (Dk.del (kl s)) Da t (upd kn s none) qs w' :=
  { h with
    ownK := ho
    hasK := has_del h.hasK s
    atK := fun k y hy z => by
      obtain ⟨e, hy⟩ := upd_none hy
      rw [Maps.atKey_del_other (kl_ne e), h.atK k y hy z]
    lsK := fun k y hy => Ls.but (h.lsK k y (upd_none hy).2) hk h.map_k
    ownA := own_but h.ownA hk h.ne.symm
    lsA := h.lsA_but hk (.inl rfl)
    pl := At.but h.pl hk h.p_mk.1 }
/-- The row of who waits for s turns. -/
theorem Dq.turn (h : Dq F none N p mk ma sv lv Dk Da t kn qs w) {s : ByteArray} {l : List Int} (hs : qs s = some l) (g : w.grownBy w' (lv s).ownBlock) : Dq F (some s) N p mk ma sv lv Dk Da t kn qs w' := by
  have hr : ∀ b, (lv s).ownBlock = some b → _ := fun b hb => h.row hs (by simp) hb
  have hb : ∀ (j : Nat) (o : Obj), w.heap[j]? = some o → (∀ cs, o ≠ .cells cs 3) → w'.heap[j]? = some o := fun j o ho hc => (g.block j (Array.getElem?_eq_some_iff.1 ho).1 (fun e => by
    obtain ⟨_, _, _, _, _, cs, h1⟩ := hr j e.symm
    rw [ho] at h1
    exact hc cs (Option.some.inj h1))).trans ho
  obtain ⟨e1, c1, b1⟩ := own_block h.ownK
  obtain ⟨e2, c2, b2⟩ := own_block h.ownA
  exact { h with
    ownK := own_at h.ownK (by rw [b1]; exact hb _ _ b1 (fun cs e => by cases e))
    ownA := own_at h.ownA (by rw [b2]; exact hb _ _ b2 (fun cs e => by cases e))
    lsK := fun k x hk => Kd.R_mono (Kd.R_step (Kd.R_bound (h.lsK k x hk)) (fun i hi hlt => by
      obtain ⟨_, _, _, q, hq, cs, hc⟩ := hi
      obtain rfl : q = 9 := by simpa [Kd.string, Kd.scalar] using hq
      rw [hc]
      exact hb i _ hc (fun cs e => by cases e))) (fun _ _ => trivial)
    lsA := fun k l' hk hx => Kd.R_grown2 (h.lsA k l' hk (by simp)) rfl g (fun b hbs hkb => hx (by rw [h.inj k s l' l b hk hs (by simp) (by simp) hkb.symm hbs]))
    inj := fun k k' l l' b hk hk' hx hx' => h.inj k k' l l' b hk hk' (by simp) (by simp)
    pl := hb _ _ h.pl (fun cs e => by cases e) }
theorem Dq.weak (h : Dq F none N p mk ma sv lv Dk Da t kn qs w) (s : ByteArray) : Dq F (some s) N p mk ma sv lv Dk Da t kn qs w :=
  { h with lsA := fun k l hk _ => h.lsA k l hk (by simp), inj := fun k k' l l' b hk hk' _ _ => h.inj k k' l l' b hk hk' (by simp) (by simp) }
/-- Who waits for s is now told in v. -/
theorem Dq.ask (h : Dq F (some s) N p mk ma sv lv Dk Da t kn qs w) {v : Value} {l : List Int} {N' : Nat} (hN : N ≤ N') (hl : l.length ≤ N') (ho : w'.ownsMap Try.prog 9 RV ma N' (Da.put (kl s) (.held v))) (hk : ∀ (j : Nat) (o : Obj), w.heap[j]? = some o → j ≠ ma → w'.heap[j]? = some o) (hv : Is w' F v l)
    (hd : ∀ k l' b, qs k = some l' → k ≠ s → (lv k).ownBlock = some b → v.ownBlock ≠ some b) : Dq F none N' p mk ma sv (fun k => if k = s then v else lv k) Dk (Da.put (kl s) (.held v)) t kn (upd qs s (some l)) w' :=
  { h with
    ownA := ho
    hasA := has_upd h.ownA.isMap h.hasA s _ l
    atA := fun k y hy z => by
      by_cases e : k = s
      · subst e
        rw [Maps.atKey_put_same h.ownA.isMap (kl_key _)]
        simp
      · rw [upd_other qs e] at hy
        rw [Maps.atKey_put_other (kl_ne e), h.atA k y hy z]
        simp [e]
    lsA := fun k y hy _ => by
      by_cases e : k = s
      · subst e
        rw [upd_same] at hy
        cases hy
        simpa using hv
      · rw [upd_other qs e] at hy
        simp only [e, if_false]
        exact h.lsA_but hk (.inr rfl) k y hy (fun e2 => e (Option.some.inj e2))
    inj := fun k k' y y' b hy hy' _ _ h1 h2 => by
      by_cases e : k = s
      · by_cases e' : k' = s
        · rw [e, e']
        · rw [upd_other qs e'] at hy'
          simp only [e, e', if_true, if_false] at h1 h2
          exact absurd h1 (hd k' y' b hy' e' h2)
      · by_cases e' : k' = s
        · rw [upd_other qs e] at hy
          simp only [e, e', if_true, if_false] at h1 h2
          exact absurd h2 (hd k y b hy e h1)
        · rw [upd_other qs e] at hy
          rw [upd_other qs e'] at hy'
          simp only [e, e', if_false] at h1 h2
          exact h.inj k k' y y' b hy hy' (fun e2 => e (Option.some.inj e2)) (fun e2 => e' (Option.some.inj e2)) h1 h2
    few := fun k y hy => by
      by_cases e : k = s
      · subst e
        rw [upd_same] at hy
        cases hy
        exact hl
      · rw [upd_other qs e] at hy
        exact Nat.le_trans (h.few k y hy) hN
    ownK := (own_but h.ownK hk h.ne).mono hN
    lsK := fun k x hx => Ls.but (h.lsK k x hx) hk h.map_a
    pl := At.but h.pl hk h.p_mk.2 }
/-- Nobody waits for s. -/
theorem Dq.told (h : Dq F (some s) N p mk ma sv lv Dk Da t kn qs w) (ho : w'.ownsMap Try.prog 9 RV ma N (Da.del (kl s))) (hk : ∀ (j : Nat) (o : Obj), w.heap[j]? = some o → j ≠ ma → w'.heap[j]? = some o) : Dq F none N p mk ma sv lv Dk (Da.del (kl s)) t kn (upd qs s none) w' :=
  { h with
    ownA := ho
    hasA := has_del h.hasA s
    atA := fun k y hy z => by
      obtain ⟨e, hy⟩ := upd_none hy
      rw [Maps.atKey_del_other (kl_ne e), h.atA k y hy z]
    lsA := fun k y hy _ => h.lsA_but hk (.inr rfl) k y (upd_none hy).2 (fun e2 => (upd_none hy).1 (Option.some.inj e2))
    inj := fun k k' y y' b hy hy' _ _ => h.inj k k' y y' b (upd_none hy).2 (upd_none hy').2 (fun e2 => (upd_none hy).1 (Option.some.inj e2)) (fun e2 => (upd_none hy').1 (Option.some.inj e2))
    few := fun k y hy => h.few k y (upd_none hy).2
    ownK := own_but h.ownK hk h.ne
    lsK := fun k x hx => Ls.but (h.lsK k x hx) hk h.map_a
    pl := At.but h.pl hk h.p_mk.2 }
end
/-! ### What nobody made -/
def Dead (v : Value) (w : World) : Prop := v = .pointer none ∨ ∃ p, v = .pointer (some ⟨p, 0, none⟩) ∧ Blk.At p #[.int .i64 0, .map none, .map none] 50 w
theorem Dead.below {v : Value} {w w' : World} (h : Dead v w) (hb : Below w.heap.size w w') : Dead v w' := by
  rcases h with h | ⟨p, hv, hA⟩
  · exact .inl h
  · exact .inr ⟨p, hv, hA.below hb hA.lt⟩
theorem neq47 (W : World) (m : Option Nat) : (binOp .neq 47 (.map m) (.map none)).run Try.prog W = .ok (.bool (!m.isNone)) W := by
  simp only [binOp]
  simp [run_equal_map_nil W 47 9 56 m Try.underlying47]
attribute [local go_sem] neq47
theorem p_ok.dead {v : Value} {w : World} (h : Dead v w) : Calls Try.prog 19 #[v] w fun e w' => e = .returned (.bool false) ∧ w' = w := by
  rcases h with rfl | ⟨p, rfl, hA⟩
  · go_enter Try.func19, Try.ntmps19
    go_wp2_with fail
    go_ret
    exact ⟨rfl, rfl⟩
  · have x1 : w.cell? ⟨p, 1, none⟩ = some (.map none) := hA.cell 1
    clear hA
    go_enter Try.func19, Try.ntmps19
    go_wp2_with fail
    go_ret
    exact ⟨rfl, rfl⟩
section
variable {F G : Nat → Prop} {X : Option ByteArray} {s : ByteArray} {N p mk ma : Nat} {sv lv : ByteArray → Value} {Dk Da : DataW Value} {t : Int} {kn : KF} {qs : AF} {w w' : World}
def rowV (qs : AF) (lv : ByteArray → Value) (s : ByteArray) : Value := match qs s with | none => .slice none 0 0 | some _ => lv s
theorem Dq.lookK (h : Dq F X N p mk ma sv lv Dk Da t kn qs w) {s : ByteArray} (hs : s.size ≤ maxLen) :
    (Instr.lookup 47 (.map (some mk)) (.string s) true).run Try.prog w = .ok (.tuple #[match kn s with | none => .agg #[.bool false, .slice none 0 0, .int .i64 0] | some x => .agg (tokC x (sv s)), .bool (kn s).isSome]) w := by
  obtain ⟨v, ps, hr, hv⟩ := h.ownK.look_ok key9 Try.underlying47 (zero56 w) (zd := .held (.agg #[.bool false, .slice none 0 0, .int .i64 0])) (zp := []) rfl (keyOf9 hs)
  rw [hr, h.hasK s]
  have hv' : DataW.held v = Dk.atKey (kl s) (.held (.agg #[.bool false, .slice none 0 0, .int .i64 0])) := congrArg Prod.fst (Option.some.inj hv)
  cases hf : kn s with
  | none =>
    rw [Maps.atKey_of_not_has (k := kl s) (D := Dk) (by rw [h.hasK s, hf]; rfl) _] at hv'
    cases hv'
    rfl
  | some x =>
    rw [h.atK s x hf] at hv'
    cases hv'
    rfl
theorem Dq.lookA (h : Dq F X N p mk ma sv lv Dk Da t kn qs w) {s : ByteArray} (hs : s.size ≤ maxLen) :
    (Instr.lookup 48 (.map (some ma)) (.string s) true).run Try.prog w = .ok (.tuple #[rowV qs lv s, .bool (qs s).isSome]) w := by
  obtain ⟨v, ps, hr, hv⟩ := h.ownA.look_ok key9 Try.underlying48 (zero31 w) (zd := .held (.slice none 0 0)) (zp := []) rfl (keyOf9 hs)
  rw [hr, h.hasA s]
  unfold rowV
  have hv' : DataW.held v = Da.atKey (kl s) (.held (.slice none 0 0)) := congrArg Prod.fst (Option.some.inj hv)
  cases hf : qs s with
  | none =>
    rw [Maps.atKey_of_not_has (k := kl s) (D := Da) (by rw [h.hasA s, hf]; rfl) _] at hv'
    cases hv'
    rfl
  | some x =>
    rw [h.atA s x hf] at hv'
    cases hv'
    rfl
theorem Dq.lookA0 (h : Dq F X N p mk ma sv lv Dk Da t kn qs w) {s : ByteArray} (hs : s.size ≤ maxLen) :
    (Instr.lookup 48 (.map (some ma)) (.string s) false).run Try.prog w = .ok (rowV qs lv s) w := by
  obtain ⟨v, ps, hr, hv⟩ := h.ownA.lookup key9 Try.underlying48 (zero31 w) (zd := .held (.slice none 0 0)) (zp := []) rfl (keyOf9 hs)
  rw [hr]
  unfold rowV
  have hv' : DataW.held v = Da.atKey (kl s) (.held (.slice none 0 0)) := congrArg Prod.fst (Option.some.inj hv)
  cases hf : qs s with
  | none =>
    rw [Maps.atKey_of_not_has (k := kl s) (D := Da) (by rw [h.hasA s, hf]; rfl) _] at hv'
    cases hv'
    rfl
  | some x =>
    rw [h.atA s x hf] at hv'
    cases hv'
    rfl
theorem p_ok.calls (h : DA F N p t kn qs w) : Calls Try.prog 19 #[.pointer (some ⟨p, 0, none⟩)] w fun e w' => e = .returned (.bool true) ∧ w' = w := by
  obtain ⟨mk, ma, sv, lv, Dk, Da, h⟩ := h
  have x1 : w.cell? ⟨p, 1, none⟩ = some (.map (some mk)) := h.pl.cell 1
  clear h
  go_enter Try.func19, Try.ntmps19
  go_wp2_with fail
  go_ret
  exact ⟨rfl, rfl⟩
theorem p_Now.calls (h : DA F N p t kn qs w) : Calls Try.prog 10 #[.pointer (some ⟨p, 0, none⟩)] w fun e w' => e = .returned (.int .i64 t) ∧ w' = w := by
  have hk := p_ok.calls h
  obtain ⟨mk, ma, sv, lv, Dk, Da, h⟩ := h
  have x0 : w.cell? ⟨p, 0, none⟩ = some (.int .i64 t) := h.pl.cell 0
  clear h
  go_enter Try.func10, Try.ntmps10
  go_wp2_with fail
  refine hk.mono ?_
  rintro e w1 ⟨rfl, rfl⟩
  go_wp2_with fail
  go_ret
  exact ⟨rfl, rfl⟩
end
theorem p_Now.dead {v : Value} {w : World} (h : Dead v w) : Calls Try.prog 10 #[v] w fun e w' => e = .returned (.int .i64 0) ∧ w' = w := by
  have hk := p_ok.dead h
  clear h
  go_enter Try.func10, Try.ntmps10
  go_wp2_with fail
  refine hk.mono ?_
  rintro e w1 ⟨rfl, rfl⟩
  go_wp2_with fail
  go_ret
  exact ⟨rfl, rfl⟩
theorem p_New.calls (w : World) (N : Nat) : Calls Try.prog 6 #[] w fun e w' => e = .returned (.pointer (some ⟨w.heap.size + 2, 0, none⟩)) ∧ DA (fun i => w.heap.size ≤ i) N (w.heap.size + 2) 0 (fun _ => none) (fun _ => none) w' ∧ Below w.heap.size w w' := by
  have hmm := @run_makeMap Try.prog
  go_enter Try.func6, Try.ntmps6
  go_wp2_with fail
  go_ret
  have hs : (w.alloc (.map #[] 0)).heap.size = w.heap.size + 1 := size_alloc _ _
  have hs2 : ((w.alloc (.map #[] 0)).alloc (.map #[] 0)).heap.size = w.heap.size + 2 := by rw [size_alloc, hs]
  have hm2 := World.ownsMap_made (w.alloc (.map #[] 0)) Try.prog 9 RV
  rw [hs] at hm2
  refine ⟨rfl, ⟨w.heap.size, w.heap.size + 1, fun _ => undef, fun _ => undef, .map [], .map [], ?_⟩, below_alloc (below_alloc (below_alloc (Below.refl _ _) _) _) _⟩
  have hp := Blk.At.new ((w.alloc (.map #[] 0)).alloc (.map #[] 0)) #[.int .i64 0, .map (some w.heap.size), .map (some (w.heap.size + 1))] 50
  rw [hs2] at hp
  exact { ownK := (((World.ownsMap_made w Try.prog 9 RV).alloc _).alloc _).mono (Nat.zero_le _), hasK := fun k => rfl, atK := fun k x hx => (nomatch hx), lsK := fun k x hx => (nomatch hx), ownA := (hm2.alloc _).mono (Nat.zero_le _), hasA := fun k => rfl, atA := fun k x hx => (nomatch hx), lsA := fun k x hx => (nomatch hx), inj := fun k k' l l' b hx => (nomatch hx), few := fun k l hx => (nomatch hx), foot := ⟨by omega, by omega, by omega⟩, ne := by omega, pl := by first | exact hp | (rw [hs] ; exact hp) }
/-! ### Time goes on -/
def ltr (t now : Int) : Int := if now ≤ 1099511627776 then (if t < now then now else t) else t
/-- What is known no longer goes. -/
def expd (t : Int) (kn : KF) : KF := fun k => match kn k with | some x => if x.til ≤ t then none else some x | none => none
theorem p_gone.calls {c p : Nat} {t : Int} {m1 m2 : Value} {w : World} (hc : Blk.At c #[.pointer (some ⟨p, 0, none⟩)] 23 w) (hp : Blk.At p #[.int .i64 t, m1, m2] 50 w) (k : ByteArray) (x : Tok) (v : Value) :
    Calls Try.prog 31 (#[.string k, .agg (tokC x v)] ++ #[.pointer (some ⟨c, 0, none⟩)]) w fun e w' => e = .returned (.bool (decide (x.til ≤ t))) ∧ Below w.heap.size w w' := by
  show Calls Try.prog 31 #[.string k, .agg (tokC x v), .pointer (some ⟨c, 0, none⟩)] w _
  have hb := below_alloc (Below.refl _ w) (.cells (tokC x v) 56)
  have hc1 := hc.below hb hc.lt
  have hp1 := hp.below hb hp.lt
  have hx1 := Blk.At.new w (tokC x v) 56
  obtain ⟨g, hg⟩ : ∃ g, g = w.heap.size := ⟨_, rfl⟩
  obtain ⟨W, hW⟩ : ∃ W, W = w.alloc (.cells (tokC x v) 56) := ⟨_, rfl⟩
  rw [← hg] at hx1
  rw [← hW] at hc1 hp1 hx1 hb
  have q1 : W.cell? ⟨c, 0, none⟩ = some (.pointer (some ⟨p, 0, none⟩)) := hc1.cell 0
  have q2 : W.cell? ⟨p, 0, none⟩ = some (.int .i64 t) := hp1.cell 0
  have q3 : W.cell? ⟨g, 2, none⟩ = some (.int .i64 x.til) := hx1.cell 2
  have HB := Aside0.mk hb
  clear hc hp hc1 hp1 hx1 hb
  replace hW := hW.symm
  replace hg := hg.symm
  go_enter Try.func31, Try.ntmps31
  go_wp2_with fail
  refine start_ (n := 8) (S := fun w' => w'.cell? ⟨c, 0, none⟩ = some (.pointer (some ⟨p, 0, none⟩)) ∧ w'.cell? ⟨p, 0, none⟩ = some (.int .i64 t) ∧ w'.cell? ⟨g, 2, none⟩ = some (.int .i64 x.til)) (ds := []) #[false, false, false, false, false, false, false, false] (by kernel_rfl) rfl rfl ⟨q1, q2, q3⟩ (fun hHeld => ?_)
  refine pure_ (i := 0) (N := some 6) (v := ?_) (a' := ?_) #[true, false, false, false, false, false, false, false] rfl rfl (by kernel_rfl) (fun _ _ _ h => h) (Or.inl ⟨by rfl, ?_⟩) ?_ ?_
  rotate_left
  · intro w'
    go_simp
    with_reducible rfl
  rotate_left
  · simp only [Act.put, List.setIfInBounds_toArray, List.set_cons_zero, List.set_cons_succ, i64_w, i32_w]
    rfl
  refine take_ (i := 1) (N := some 7) (v := ?_) (a' := ?_) #[true, true, false, false, false, false, false, false] rfl rfl (by kernel_rfl) (fun _ _ _ h => h) (Or.inl ⟨by rfl, ?_⟩) hHeld ?_ ?_
  rotate_left
  · rintro w' ⟨s0, s1, s2⟩
    go_simp
    with_reducible rfl
  rotate_left
  · simp only [Act.put, List.setIfInBounds_toArray, List.set_cons_zero, List.set_cons_succ, i64_w, i32_w]
    rfl
  refine take_ (i := 2) (N := some 8) (v := ?_) (a' := ?_) #[true, true, true, false, false, false, false, false] rfl rfl (by kernel_rfl) (fun _ _ _ h => h) (Or.inl ⟨by rfl, ?_⟩) hHeld ?_ ?_
  rotate_left
  · rintro w' ⟨s0, s1, s2⟩
    go_simp
    with_reducible rfl
  rotate_left
  · simp only [Act.put, List.setIfInBounds_toArray, List.set_cons_zero, List.set_cons_succ, i64_w, i32_w]
    rfl
  refine pure_ (i := 3) (N := some 9) (v := ?_) (a' := ?_) #[true, true, true, true, false, false, false, false] rfl rfl (by kernel_rfl) (fun _ _ _ h => h) (Or.inl ⟨by rfl, ?_⟩) ?_ ?_
  rotate_left
  · intro w'
    go_simp
    with_reducible rfl
  rotate_left
  · simp only [Act.put, List.setIfInBounds_toArray, List.set_cons_zero, List.set_cons_succ, i64_w, i32_w]
    rfl
  refine pure_ (i := 4) (N := some 10) (v := ?_) (a' := ?_) #[true, true, true, true, true, false, false, false] rfl rfl (by kernel_rfl) (fun _ _ _ h => h) (Or.inl ⟨by rfl, ?_⟩) ?_ ?_
  rotate_left
  · intro w'
    go_simp
    with_reducible rfl
  rotate_left
  · simp only [Act.put, List.setIfInBounds_toArray, List.set_cons_zero, List.set_cons_succ, i64_w, i32_w]
    rfl
  refine take_ (i := 5) (N := some 11) (v := ?_) (a' := ?_) #[true, true, true, true, true, true, false, false] rfl rfl (by kernel_rfl) (fun _ _ _ h => h) (Or.inl ⟨by rfl, ?_⟩) hHeld ?_ ?_
  rotate_left
  · rintro w' ⟨s0, s1, s2⟩
    go_simp
    with_reducible rfl
  rotate_left
  · simp only [Act.put, List.setIfInBounds_toArray, List.set_cons_zero, List.set_cons_succ, i64_w, i32_w]
    rfl
  refine pure_ (i := 6) (N := some 12) (v := ?_) (a' := ?_) #[true, true, true, true, true, true, true, false] rfl rfl (by kernel_rfl) (fun _ _ _ h => h) (Or.inl ⟨by rfl, ?_⟩) ?_ ?_
  rotate_left
  · intro w'
    go_simp
    with_reducible rfl
  rotate_left
  · simp only [Act.put, List.setIfInBounds_toArray, List.set_cons_zero, List.set_cons_succ, i64_w, i32_w]
    rfl
  refine pure_ (i := 7) (N := some 5) (v := ?_) (a' := ?_) #[true, true, true, true, true, true, true, true] rfl rfl (by kernel_rfl) (fun _ _ _ h => h) (Or.inl ⟨by rfl, ?_⟩) ?_ ?_
  rotate_left
  · intro w'
    go_simp
    with_reducible rfl
  rotate_left
  · simp only [Act.put, List.setIfInBounds_toArray, List.set_cons_zero, List.set_cons_succ, i64_w, i32_w]
    rfl
  refine done_ (by kernel_rfl) ?_
  go_wp2_with fail
  go_ret
  exact ⟨rfl, below_drew HB.out⟩
theorem keyOf9_inv {x : ByteArray} {l : Lit} (h : keyOf Try.prog 9 (.string x) = some l) : l = kl x ∧ x.size ≤ maxLen := by
  by_cases hx : x.size ≤ maxLen
  · rw [keyOf9 hx] at h
    exact ⟨(Option.some.inj h).symm, hx⟩
  · unfold keyOf mapKey at h
    simp [Try.underlying9, hx] at h
theorem key_string (key : Value) (l : Lit) (h : keyOf Try.prog 9 key = some l) : ∃ x : ByteArray, key = .string x := by
  cases key <;> simp [keyOf, Try.underlying9, mapKey] at h
  exact ⟨_, rfl⟩
theorem kl_same (a b : ByteArray) : (kl a).sameKey (kl b) = decide (a = b) := by
  by_cases e : a = b
  · subst e; simp [kl, Lit.sameKey]
  · rw [decide_eq_false e]
    have := kl_ne e
    simpa [kl, Lit.sameKey] using this
/-- What is known while the list is gone through. -/
def LeftK (left : Lit → Bool) (t : Int) (kn kc : KF) : Prop := ∀ k, kc k = match kn k with | some x => if left (kl k) then some x else (if x.til ≤ t then none else some x) | none => none
theorem LeftK.start {kn : KF} {D : DataW Value} {t : Int} (h : ∀ k, Maps.has D (kl k) = (kn k).isSome) : LeftK (Maps.has D) t kn kn := fun k => by
  have := h k
  cases hk : kn k with
  | none => rfl
  | some x => rw [hk] at this; simp [this]
theorem LeftK.done {left : Lit → Bool} {t : Int} {kn kc : KF} (h : LeftK left t kn kc) (hl : ∀ l, left l = false) : kc = expd t kn := by
  funext k
  rw [h k]
  unfold expd
  cases kn k with
  | none => rfl
  | some x => simp [hl]
theorem LeftK.at_ {left : Lit → Bool} {t : Int} {kn kc : KF} (h : LeftK left t kn kc) {s : ByteArray} (hs : left (kl s) = true) {x : Tok} (hx : kc s = some x) : kn s = some x := by
  have := h s
  rw [hx] at this
  cases hk : kn s with
  | none => rw [hk] at this; cases this
  | some y => rw [hk] at this; simp [hs] at this; rw [this]
theorem LeftK.stays {left : Lit → Bool} {t : Int} {kn kc : KF} (h : LeftK left t kn kc) {s : ByteArray} (hs : left (kl s) = true) {x : Tok} (hx : kc s = some x) (hg : ¬ x.til ≤ t) : LeftK (fun z => left z && !z.sameKey (kl s)) t kn kc := fun k => by
  rw [h k]
  cases hk : kn k with
  | none => rfl
  | some y =>
    simp only [kl_same]
    by_cases e : k = s
    · subst e
      have := h.at_ hs hx
      rw [hk] at this
      cases this
      simp [hs, hg]
    · simp [e]
theorem LeftK.goes {left : Lit → Bool} {t : Int} {kn kc : KF} (h : LeftK left t kn kc) {s : ByteArray} (hs : left (kl s) = true) {x : Tok} (hx : kc s = some x) (hg : x.til ≤ t) : LeftK (fun z => left z && !z.sameKey (kl s)) t kn (upd kc s none) := fun k => by
  by_cases e : k = s
  · subst e
    rw [upd_same, h.at_ hs hx]
    simp [kl_same, hg]
  · rw [upd_other _ e, h k]
    cases hk : kn k with
    | none => rfl
    | some y =>
      simp only [kl_same]
      simp [e]
theorem DA.of {F : Nat → Prop} {N p mk ma : Nat} {sv lv : ByteArray → Value} {Dk Da : DataW Value} {t : Int} {kn : KF} {qs : AF} {w : World} (h : Dq F none N p mk ma sv lv Dk Da t kn qs w) : DA F N p t kn qs w := ⟨_, _, _, _, _, _, h⟩
set_option maxHeartbeats 4000000 in
theorem m_Gone.calls {F : Nat → Prop} {X : Option ByteArray} {N p mk ma c : Nat} {sv lv : ByteArray → Value} {Dk Da : DataW Value} {t : Int} {kn : KF} {qs : AF} {w : World} (h : Dq F X N p mk ma sv lv Dk Da t kn qs w) (hc : Blk.At c #[.pointer (some ⟨p, 0, none⟩)] 23 w) :
    Calls Try.prog 30 #[.map (some mk), .func (.func 31) #[] #[.pointer (some ⟨c, 0, none⟩)]] w fun e w' => e = .returned (.tuple #[]) ∧ (∃ Dc, Dq F X N p mk ma sv lv Dc Da t (expd t kn) qs w') ∧ Ku F w w' := by
  have hown := h.ownK
  have HP1 := Aside0.mk h
  have HC1 := Aside0.mk hc
  obtain ⟨r, hr⟩ : ∃ r, r = w.heap.size := ⟨_, rfl⟩
  have HR := Aside0.mk (show w.heap.size ≤ r from hr ▸ Nat.le_refl _)
  have HFK := Aside0.mk h.foot.2.1
  clear h hc
  go_enter Try.func30, Try.ntmps30
  go_wp2_with (at_range; refine wpList_range_own _ rfl _ 47 rfl 9 56 key9 Try.underlying47 RV mk N Dk rfl hown ?_; intro wa hrg0 hg0 hs0; rw [← hr]; rw [← hr] at hrg0)
  go_frame
  have HRG0 := Aside0.mk hrg0
  have HPL0 := Aside0.mk (HP1.out.st (St.grown hg0 (fun j hj => by cases hj)))
  have HKU0 := Aside0.mk (Ku.grown (F := F) hg0 (fun j hj => by cases hj))
  have HC0 := Aside0.mk (At.ku HC1.out (by decide) (by decide) HKU0.out)
  have HLF0 := Aside0.mk (LeftK.start (t := t) HP1.out.hasK)
  clear hrg0 hg0 hs0 hr hown HC1 HP1
  go_loopw [8] (fun _ wq => ∃ left cnt Dc kc, Aside0 (wq.ranges Try.prog 9 RV mk r N Dc left cnt) ∧ Aside0 (Dq F X N p mk ma sv lv Dc Da t kc qs wq) ∧ Aside0 (LeftK left t kn kc) ∧ Aside0 (Blk.At c #[.pointer (some ⟨p, 0, none⟩)] 23 wq) ∧ Aside0 (Ku F w wq)) (fun _ wq => wq.rangeLeft mk r)
  case atStart => exact ⟨_, _, _, _, HRG0, HPL0, HLF0, HC0, HKU0⟩
  case round =>
    clear HRG0 HPL0 HLF0 HC0 HKU0
    obtain ⟨left, cnt, Dc, kc, HRG, HPL, HLF, HC, HKU⟩ := hrel
    have hrg := HRG.out
    go_wp2_with (at_next; refine wpList_next_ranges _ rfl _ rfl 9 key9 RV Value.string (fun v => v) key_string (fun v y _ => ⟨v, rfl⟩) mk r N _ _ _ rfl hrg ?_ ?_)
    · intro hc0 hl0
      go_wp2_with fail
      go_end0
      have e1 := LeftK.done HLF.out hl0
      exact ⟨rfl, ⟨Dc, by rw [← e1]; exact HPL.out⟩, HKU.out⟩
    · intro x v kl' yd yp w5 cnt2 hkey hlk hv hat hrg2 hlt hg2 hs2 hen
      obtain ⟨rfl, hxs⟩ := keyOf9_inv hkey
      obtain ⟨y, hy, rfl⟩ : ∃ y, kc x = some y ∧ v = .agg (tokC y (sv x)) := by
        have e0 : DataW.held v = yd := congrArg Prod.fst (Option.some.inj hv)
        cases hk : kc x with
        | none =>
          have h1 := fun z => (Maps.atKey_of_not_has (k := kl x) (D := Dc) (by rw [HPL.out.hasK x, hk]; rfl) z).symm.trans (hat z)
          have h2 := (h1 .nil).trans (h1 (.held undef)).symm
          cases h2
        | some y =>
          have h1 := (HPL.out.atK x y hk .nil).symm.trans (hat .nil)
          rw [← e0] at h1
          exact ⟨y, rfl, (DataW.held.inj h1).symm⟩
      obtain ⟨Av, cv, hsv⟩ := Kd.R_slice (HPL.out.lsK x y hy)
      rw [hsv] at hen
      clear hsv
      have HG := Aside0.mk hg2
      have hP5 := HPL.out.st (St.of_iter hrg hg2)
      have hK5 := HKU.out.step hg2 (fun j hj => by cases hj; exact .inl HR.out)
      have hC5 : Blk.At c #[.pointer (some ⟨p, 0, none⟩)] 23 w5 := (hg2.block c HC.out.lt (fun e => by
        obtain ⟨_, _, _, _, hit⟩ := iter_at hrg
        have h1 := HC.out
        unfold Blk.At at h1
        cases e
        rw [hit] at h1
        cases h1)).trans HC.out
      have hb6 := below_alloc (Below.refl _ w5) (.cells (tokC y (.slice Av y.ss.length cv)) 56)
      have hP6 := hP5.st (F := F) (.of_below hb6)
      have hC6 := hC5.below hb6 hC5.lt
      have hX6 := Blk.At.new w5 (tokC y (.slice Av y.ss.length cv)) 56
      have hgo := p_gone.calls hC6 hP6.pl x y (.slice Av y.ss.length cv)
      obtain ⟨g, hge⟩ : ∃ g, g = w5.heap.size := ⟨_, rfl⟩
      rw [← hge] at hX6
      have q0 : (w5.alloc (.cells (tokC y (.slice Av y.ss.length cv)) 56)).cell? ⟨g, 0, none⟩ = some (.bool y.bad) := hX6.cell 0
      have q1 : (w5.alloc (.cells (tokC y (.slice Av y.ss.length cv)) 56)).cell? ⟨g, 1, none⟩ = some (.slice Av y.ss.length cv) := hX6.cell 1
      have q2 : (w5.alloc (.cells (tokC y (.slice Av y.ss.length cv)) 56)).cell? ⟨g, 2, none⟩ = some (.int .i64 y.til) := hX6.cell 2
      replace hge := hge.symm
      have HGO := Aside0.mk hgo
      have HRG2 := Aside0.mk (hrg2.alloc (.cells (tokC y (.slice Av y.ss.length cv)) 56))
      have HP6 := Aside0.mk hP6
      have HC6 := Aside0.mk hC6
      have HK6 := Aside0.mk (hK5.step (grownBy_none hb6) (fun j hj => by cases hj))
      have HLT := Aside0.mk hlt
      have HXS := Aside0.mk hxs
      have HY := Aside0.mk hy
      have HLK := Aside0.mk hlk
      clear hg2 hP5 hK5 hC5 hb6 hP6 hC6 hX6 hgo hlt hxs hy hlk hs2 hat hv hkey hrg2 HG
      go_wp2_with fail
      refine HGO.out.mono ?_
      rintro e w7 ⟨rfl, hb⟩
      have HRG7 := Aside0.mk (HRG2.out.kept (grownBy_none hb) (by simp) (by simp))
      have HP7 := Aside0.mk (HP6.out.st (F := F) (.of_below hb))
      have HC7 := Aside0.mk (HC6.out.below hb HC6.out.lt)
      have HK7 := Aside0.mk (HK6.out.step (grownBy_none hb) (fun j hj => by cases hj))
      clear hb HGO HRG2 HP6 HC6 HK6 q0 q1 q2
      by_cases hle : y.til ≤ t
      · have hd : decide (y.til ≤ t) = true := decide_eq_true hle
        have HLE := Aside0.mk hle
        have hrg7 := HRG7.out
        clear hle
        go_wp2_with (at_delete; refine wpList_delete_ranges _ rfl _ _ 47 9 rfl 56 key9 Try.underlying47 RV mk r N _ _ _ rfl hrg7 _ _ rfl (keyOf9 HXS.out) ?_; intro w8 cnt3 hrg3 hle3 hturn3; go_frame)
        rw [Maps.strike_twice] at hrg3
        have hg3 := hturn3.grown
        have hP8 := HP7.out.forget hrg3.owns (fun i o hi hne => (hg3.block i (Array.getElem?_eq_some_iff.1 hi).1 (fun e => hne (by cases e; rfl))).trans hi)
        have hK8 := HK7.out.step hg3 (fun j hj => by cases hj; exact .inr ⟨HFK.out, HP7.out.map_k⟩)
        refine ⟨⟨_, _, _, _, ⟨hrg3⟩, ⟨hP8⟩, ⟨HLF.out.goes HLK.out HY.out HLE.out⟩, ⟨?_⟩, ⟨hK8⟩⟩, ?_⟩
        · refine (hg3.block c HC7.out.lt (fun e => ?_)).trans HC7.out
          obtain ⟨o, ho, hk⟩ := HP7.out.map_k
          have h1 := HC7.out
          unfold Blk.At at h1
          cases e
          rw [ho] at h1
          cases h1
          exact not_keyed (by decide) (by decide) hk
        · rw [hrg3.left_eq, hrg.left_eq]
          exact Nat.lt_of_le_of_lt hle3 HLT.out
      · have hd : decide (y.til ≤ t) = false := decide_eq_false hle
        have HLE := Aside0.mk hle
        clear hle
        go_wp2_with fail
        refine ⟨⟨_, _, _, _, HRG7, HP7, ⟨HLF.out.stays HLK.out HY.out (by have := HLE.out; omega)⟩, HC7, HK7⟩, ?_⟩
        rw [HRG7.out.left_eq, hrg.left_eq]
        exact HLT.out
theorem keyed_at {b : Nat} {cs : Array Value} {t : TypeId} {w : World} (h : Blk.At b cs t w) (ht : t = 50 ∨ t = 3) : ∃ o, w.heap[b]? = some o ∧ keyed o := ⟨_, h, ht⟩
theorem Ku.setCell {F : Nat → Prop} {w : World} {a : Addr} {v : Value} (hF : F a.block) (h : ∃ o, w.heap[a.block]? = some o ∧ keyed o) : Ku F w (w.setCell a v) :=
  ⟨rfl, rfl, rfl, by simp [World.setCell], fun i _ hi => Below.heap_setCell _ _ _ _ (fun e => hi (e ▸ hF)), fun i o ho hk => by
    rw [Below.heap_setCell _ _ _ _ (fun e => by
      obtain ⟨o', h1, h2⟩ := h
      rw [← e, ho] at h1
      cases h1
      exact hk h2)]
    exact ho⟩
set_option maxHeartbeats 2000000 in
theorem p_later.calls {F : Nat → Prop} {N p : Nat} {t : Int} {kn : KF} {qs : AF} {w : World} (h : DA F N p t kn qs w) (now : Int) :
    Calls Try.prog 20 #[.pointer (some ⟨p, 0, none⟩), .int .i64 now] w fun e w' => e = .returned (.tuple #[]) ∧ DA F N p (ltr t now) (expd (ltr t now) kn) qs w' ∧ Ku F w w' := by
  obtain ⟨mk, ma, sv, lv, Dk, Da, h⟩ := h
  have hb := below_alloc (Below.refl _ w) (.cells #[.pointer (some ⟨p, 0, none⟩)] 23)
  have hc := Blk.At.new w #[.pointer (some ⟨p, 0, none⟩)] 23
  have h1 := h.st (F := F) (.of_below hb)
  have hcp : w.heap.size ≠ p := fun e => by have := h.pl.lt; omega
  obtain ⟨c, hce⟩ : ∃ c, c = w.heap.size := ⟨_, rfl⟩
  obtain ⟨w1, hw1⟩ : ∃ w1, w1 = w.alloc (.cells #[.pointer (some ⟨p, 0, none⟩)] 23) := ⟨_, rfl⟩
  rw [← hce] at hc hcp
  rw [← hw1] at h1 hc hb
  have x0 : w1.cell? ⟨p, 0, none⟩ = some (.int .i64 t) := h1.pl.cell 0
  have x0' : w1.frozen? ⟨p, 0, none⟩ = false := h1.pl.frozen 0
  have xc : w1.cell? ⟨c, 0, none⟩ = some (.pointer (some ⟨p, 0, none⟩)) := hc.cell 0
  have H := Aside0.mk h1
  have HC := Aside0.mk hc
  have HCP := Aside0.mk hcp
  have HK1 := Aside0.mk (Ku.of_below (F := F) hb)
  clear h hb hc h1 hcp
  replace hw1 := hw1.symm
  replace hce := hce.symm
  by_cases hx : now ≤ 1099511627776
  · have hd : decide (now ≤ 1099511627776) = true := decide_eq_true hx
    have HT := Aside0.mk (show ltr t now = if t < now then now else t from if_pos hx)
    clear hx
    generalize hT : (if t < now then now else t) = t1 at HT
    have p2 := (H.out.pl.set 0 (.int .i64 t1)).drew
    have c2 := (HC.out.set_other HCP.out.symm 0 (.int .i64 t1) (g := p)).drew
    obtain ⟨w2, hw2⟩ : ∃ w2, w2 = (w1.setCell ⟨p, 0, none⟩ (.int .i64 t1)).drew := ⟨_, rfl⟩
    have h2 := H.out.time (t' := t1) (w' := w2) (by rw [hw2]; exact p2) (fun i hi _ => by rw [hw2]; exact Below.heap_setCell _ _ _ _ hi)
    have k2 : Ku F w w2 := by rw [hw2]; exact (HK1.out.trans' (Ku.setCell H.out.foot.1 (keyed_at H.out.pl (.inl rfl)))).trans' (Ku.of_below (below_drew (Below.refl _ _)))
    rw [← hw2] at c2
    have y1 : w2.cell? ⟨p, 1, none⟩ = some (.map (some mk)) := h2.pl.cell 1
    have yc : w2.cell? ⟨c, 0, none⟩ = some (.pointer (some ⟨p, 0, none⟩)) := c2.cell 0
    have HGO := Aside0.mk (m_Gone.calls h2 c2)
    have HK2 := Aside0.mk k2
    clear p2 c2 h2 k2 H HC HCP HK1
    replace hw2 := hw2.symm
    go_enter Try.func20, Try.ntmps20
    go_wp2_with fail
    refine start_ (n := 10) (S := fun w' => w'.cell? ⟨c, 0, none⟩ = some (.pointer (some ⟨p, 0, none⟩)) ∧ w'.cell? ⟨p, 0, none⟩ = some (.int .i64 t) ∧ w'.frozen? ⟨p, 0, none⟩ = false) (ds := [9]) #[false, false, false, false, false, false, false, false, false, false] (by kernel_rfl) rfl rfl ⟨xc, x0, x0'⟩ (fun hHeld => ?_)
    refine pure_ (i := 5) (N := some 11) (v := ?_) (a' := ?_) #[false, false, false, false, false, true, false, false, false, false] rfl rfl (by kernel_rfl) (fun _ _ _ h => h) (Or.inl ⟨by rfl, ?_⟩) ?_ ?_
    rotate_left
    · intro w'
      go_simp
      with_reducible rfl
    rotate_left
    · simp only [Act.put, List.setIfInBounds_toArray, List.set_cons_zero, List.set_cons_succ, i64_w, i32_w]
      rfl
    refine take_ (i := 0) (N := some 6) (v := ?_) (a' := ?_) #[true, false, false, false, false, true, false, false, false, false] rfl rfl (by kernel_rfl) (fun _ _ _ h => h) (Or.inl ⟨by rfl, ?_⟩) hHeld ?_ ?_
    rotate_left
    · rintro w' ⟨s0, s1, s2⟩
      go_simp
      with_reducible rfl
    rotate_left
    · simp only [Act.put, List.setIfInBounds_toArray, List.set_cons_zero, List.set_cons_succ, i64_w, i32_w]
      rfl
    refine take_ (i := 1) (N := some 7) (v := ?_) (a' := ?_) #[true, true, false, false, false, true, false, false, false, false] rfl rfl (by kernel_rfl) (fun _ _ _ h => h) (Or.inl ⟨by rfl, ?_⟩) hHeld ?_ ?_
    rotate_left
    · rintro w' ⟨s0, s1, s2⟩
      go_simp
      with_reducible rfl
    rotate_left
    · simp only [Act.put, List.setIfInBounds_toArray, List.set_cons_zero, List.set_cons_succ, i64_w, i32_w]
      rfl
    refine pure_ (i := 2) (N := some 8) (v := ?_) (a' := ?_) #[true, true, true, false, false, true, false, false, false, false] rfl rfl (by kernel_rfl) (fun _ _ _ h => h) (Or.inl ⟨by rfl, ?_⟩) ?_ ?_
    rotate_left
    · intro w'
      go_simp
      with_reducible rfl
    rotate_left
    · simp only [Act.put, List.setIfInBounds_toArray, List.set_cons_zero, List.set_cons_succ, i64_w, i32_w]
      rfl
    refine pure_ (i := 3) (N := some 9) (v := ?_) (a' := ?_) #[true, true, true, true, false, true, false, false, false, false] rfl rfl (by kernel_rfl) (fun _ _ _ h => h) (Or.inl ⟨by rfl, ?_⟩) ?_ ?_
    rotate_left
    · intro w'
      go_simp
      with_reducible rfl
    rotate_left
    · simp only [Act.put, List.setIfInBounds_toArray, List.set_cons_zero, List.set_cons_succ, i64_w, i32_w]
      rfl
    refine take_ (i := 4) (N := some 10) (v := ?_) (a' := ?_) #[true, true, true, true, true, true, false, false, false, false] rfl rfl (by kernel_rfl) (fun _ _ _ h => h) (Or.inl ⟨by rfl, ?_⟩) hHeld ?_ ?_
    rotate_left
    · rintro w' ⟨s0, s1, s2⟩
      go_simp
      with_reducible rfl
    rotate_left
    · simp only [Act.put, List.setIfInBounds_toArray, List.set_cons_zero, List.set_cons_succ, i64_w, i32_w]
      rfl
    refine pure_ (i := 6) (N := some 12) (v := ?_) (a' := ?_) #[true, true, true, true, true, true, true, false, false, false] rfl rfl (by kernel_rfl) (fun _ _ _ h => h) (Or.inl ⟨by rfl, ?_⟩) ?_ ?_
    rotate_left
    · intro w'
      go_simp
      with_reducible rfl
    rotate_left
    · simp only [Act.put, List.setIfInBounds_toArray, List.set_cons_zero, List.set_cons_succ, i64_w, i32_w]
      rfl
    refine pure_ (i := 7) (N := some 13) (v := ?_) (a' := ?_) #[true, true, true, true, true, true, true, true, false, false] rfl rfl (by kernel_rfl) (fun _ _ _ h => h) (Or.inl ⟨by rfl, ?_⟩) ?_ ?_
    rotate_left
    · intro w'
      go_simp
      with_reducible rfl
    rotate_left
    · simp only [Act.put, List.setIfInBounds_toArray, List.set_cons_zero, List.set_cons_succ, i64_w, i32_w]
      rfl
    refine pure_ (i := 8) (N := some 14) (v := ?_) (a' := ?_) #[true, true, true, true, true, true, true, true, true, false] rfl rfl (by kernel_rfl) (fun _ _ _ h => h) (Or.inl ⟨by rfl, ?_⟩) ?_ ?_
    rotate_left
    · intro w'
      go_simp
      with_reducible rfl
    rotate_left
    · simp only [Act.put, List.setIfInBounds_toArray, List.set_cons_zero, List.set_cons_succ, i64_w, i32_w]
      rfl
    refine last_ (i := 9) (N := none) #[true, true, true, true, true, true, true, true, true, true] rfl rfl (by kernel_rfl) (by decide) (fun K hK => ?_)
    refine skip_ (w1 := ?_) (by rfl) rfl ?_ ?_
    rotate_left
    · go_simp
      rfl
    refine hK.out _ _ ?_
    clear hK K
    refine done_ (by kernel_rfl) ?_
    go_wp2_with fail
    refine HGO.out.mono ?_
    rintro e w3 ⟨rfl, ⟨Dc, h3⟩, k3⟩
    have HH := Aside0.mk (And.intro h3 k3)
    clear h3 k3 HGO
    go_wp2_with fail
    go_end0
    rw [HT.out]
    exact ⟨rfl, ⟨mk, ma, sv, lv, Dc, Da, HH.out.1⟩, HK2.out.trans' HH.out.2⟩
  · have hd : decide (now ≤ 1099511627776) = false := decide_eq_false hx
    have HT := Aside0.mk (show ltr t now = t from if_neg hx)
    have y1 : w1.cell? ⟨p, 1, none⟩ = some (.map (some mk)) := H.out.pl.cell 1
    have HGO := Aside0.mk (m_Gone.calls H.out HC.out)
    clear hx x0 x0' HCP
    go_enter Try.func20, Try.ntmps20
    go_wp2_with fail
    refine HGO.out.mono ?_
    rintro e w3 ⟨rfl, ⟨Dc, h3⟩, k3⟩
    have HH := Aside0.mk (And.intro h3 k3)
    clear h3 k3 HGO
    go_wp2_with fail
    go_end0
    rw [HT.out]
    exact ⟨rfl, ⟨mk, ma, sv, lv, Dc, Da, HH.out.1⟩, HK1.out.trans' HH.out.2⟩
end Go.Proofs.Ytnakiheekkpfdaa.Q
