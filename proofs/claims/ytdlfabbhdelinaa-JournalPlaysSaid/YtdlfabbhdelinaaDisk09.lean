/- A disk in memory: what its block holds, what a call turns, and the disk as a plain state. No condition but those typed. -/
import Derived.Test.YtdlfabbhdelinaaBlocks
namespace Go.Proofs.Ytdlfabbhdelinaa.Dk
open Go.RowKit Go.Proofs.YtdlfabbhdelinaaW.PrintWords Go.Proofs.YtdlfabbhdelinaaW.PrintLast Go.Proofs.YtdlfabbhdelinaaW.PrintMore
set_option linter.unusedVariables false
/-- Of the old blocks g alone may have turned. -/
structure Tn (g : Nat) (w w' : World) : Prop where
  os : w'.os = w.os
  tape : w'.tape = w.tape
  output : w'.output = w.output
  size : w.heap.size ≤ w'.heap.size
  block : ∀ k, k < w.heap.size → k ≠ g → w'.heap[k]? = w.heap[k]?
namespace Tn
variable {g B : Nat} {w w1 w2 : World}
theorem refl (g : Nat) (w : World) : Tn g w w := ⟨rfl, rfl, rfl, Nat.le_refl _, fun _ _ _ => rfl⟩
theorem trans (h : Tn g w w1) (k : Tn g w1 w2) : Tn g w w2 := ⟨k.os.trans h.os, k.tape.trans h.tape, k.output.trans h.output, Nat.le_trans h.size k.size, fun i hi hg => (k.block i (Nat.lt_of_lt_of_le hi h.size) hg).trans (h.block i hi hg)⟩
theorem of_below (h : Below w.heap.size w w1) : Tn g w w1 := ⟨h.os, h.tape, h.output, h.size, fun i hi _ => h.block i hi⟩
theorem then_below (h : Tn g w w1) (k : Below w1.heap.size w1 w2) : Tn g w w2 := h.trans (of_below k)
theorem set_own (h : Tn g w w1) (i : Nat) (v : Value) : Tn g w (w1.setCell ⟨g, i, none⟩ v) := ⟨h.os, h.tape, h.output, by simpa [World.setCell] using h.size, fun k hk hg => (Below.heap_setCell _ _ _ _ hg).trans (h.block k hk hg)⟩
theorem set_new (h : Tn g w w1) {p : Addr} (hp : w.heap.size ≤ p.block) (v : Value) : Tn g w (w1.setCell p v) := ⟨h.os, h.tape, h.output, by simpa [World.setCell] using h.size, fun k hk hg => (Below.heap_setCell _ _ _ _ (by omega)).trans (h.block k hk hg)⟩
theorem alloc (h : Tn g w w1) (o : Obj) : Tn g w (w1.alloc o) := h.then_below (below_alloc (Below.refl _ _) o)
theorem drew (h : Tn g w w1) : Tn g w w1.drew := h.then_below (below_drew (Below.refl _ _))
theorem below (h : Tn g w w1) (hg : B ≤ g) (hB : B ≤ w.heap.size) : Below B w w1 := ⟨h.os, h.tape, h.output, h.size, fun k hk => h.block k (by omega) (by omega)⟩
theorem base (h : Tn g w w1) (k : Below B w2 w) (hg : B ≤ g) (hB : B ≤ w.heap.size) : Below B w2 w1 := k.trans (h.below hg hB)
theorem grown (h : Tn g w w1) : w.grownBy w1 (some g) := ⟨h.os, h.tape, h.output, h.size, fun k hk hg => h.block k hk (fun e => hg (by rw [e]))⟩
end Tn
/-- A file: what it has, what was sure, the cut that waits. -/
structure Fl where
  now : List Int
  sure : List Int
  cut : Int
/-- A disk. -/
structure D where
  a : Fl
  b : Fl
  root : Int
  room : Int
  off : Bool
  fuse : Int
  behind : Bool
def D.fl (d : D) (i : Bool) : Fl := match i with | false => d.a | true => d.b
def D.put (d : D) (i : Bool) (x : Fl) : D := match i with | false => { d with a := x } | true => { d with b := x }
/-- Bytes that are read. -/
abbrev Vb (ok : Nat → Prop) (w : World) (v : Value) (xs : List Int) : Prop := Kd.V (Kd.int .u8) 5 w 0 ok v xs
def cells (v0 v1 v2 v3 : Value) (d : D) : Array Value := #[v0, v1, .int .i64 d.a.cut, v2, v3, .int .i64 d.b.cut, .int .i64 d.root, .int .i64 d.room, .bool d.off, .int .i64 d.fuse, .bool d.behind]
/-- Block g holds this disk; its bytes lie in blocks that are ok. -/
structure At (g : Nat) (ok : Nat → Prop) (d : D) (w : World) : Prop where
  nok : ¬ ok g
  fresh : ∀ k, w.heap.size ≤ k → ok k
  ex : ∃ v0 v1 v2 v3, Blk.At g (cells v0 v1 v2 v3 d) 93 w ∧ Vb ok w v0 d.a.now ∧ Vb ok w v1 d.a.sure ∧ Vb ok w v2 d.b.now ∧ Vb ok w v3 d.b.sure
namespace At
variable {g B : Nat} {ok ok' : Nat → Prop} {d : D} {w w1 w2 : World}
theorem lt (h : At g ok d w) : g < w.heap.size := by
  obtain ⟨v0, v1, v2, v3, hA, _⟩ := h.ex
  exact hA.lt
theorem below (h : At g ok d w) (hb : Below w.heap.size w w1) : At g ok d w1 := by
  have hl := h.lt
  obtain ⟨v0, v1, v2, v3, hA, h0, h1, h2, h3⟩ := h.ex
  exact ⟨h.nok, fun k hk => h.fresh k (Nat.le_trans hb.size hk), v0, v1, v2, v3, hA.below hb hl, Kd.V_below h0 hb, Kd.V_below h1 hb, Kd.V_below h2 hb, Kd.V_below h3 hb⟩
theorem mono (h : At g ok d w) (hok : ∀ k, ok k → k < w.heap.size → ok' k) (hn : ¬ ok' g) (hf : ∀ k, w.heap.size ≤ k → ok' k) : At g ok' d w := by
  obtain ⟨v0, v1, v2, v3, hA, h0, h1, h2, h3⟩ := h.ex
  have m : ∀ {v xs}, Vb ok w v xs → Vb ok' w v xs := fun hv => Kd.V_mono (Kd.V_bound hv) (fun k hk => hok k hk.1 hk.2)
  exact ⟨hn, hf, v0, v1, v2, v3, hA, m h0, m h1, m h2, m h3⟩
/-- Another block has turned. -/
theorem step (h : At g ok d w) (hs : w.heap.size ≤ w1.heap.size) (hg : w1.heap[g]? = w.heap[g]?) (hm : ∀ k, ok k → k < w.heap.size → w1.heap[k]? = w.heap[k]?) : At g ok d w1 := by
  obtain ⟨v0, v1, v2, v3, hA, h0, h1, h2, h3⟩ := h.ex
  exact ⟨h.nok, fun k hk => h.fresh k (Nat.le_trans hs hk), v0, v1, v2, v3, hg.trans hA, Kd.V_step h0 hm, Kd.V_step h1 hm, Kd.V_step h2 hm, Kd.V_step h3 hm⟩
theorem far (h : At g ok d w) {p : Addr} (hg : p.block ≠ g) (hp : ¬ ok p.block) (v : Value) : At g ok d (w.setCell p v) :=
  h.step (by simp [World.setCell]) (Below.heap_setCell _ _ _ _ (fun e => hg e.symm)) (fun k hk _ => Below.heap_setCell _ _ _ _ (fun e => hp (e ▸ hk)))
end At
theorem V_tn {ok : Nat → Prop} {g : Nat} {w w1 : World} {v : Value} {xs : List Int} (h : Vb ok w v xs) (hg : ¬ ok g) (T : Tn g w w1) : Vb ok w1 v xs :=
  Kd.V_step h (fun k hk hl => T.block k hl (fun e => hg (e ▸ hk)))
theorem At.turn {g : Nat} {ok : Nat → Prop} {d d' : D} {w w1 : World} (h : At g ok d w) (T : Tn g w w1) {v0 v1 v2 v3 : Value} (hA : Blk.At g (cells v0 v1 v2 v3 d') 93 w1)
    (h0 : Vb ok w1 v0 d'.a.now) (h1 : Vb ok w1 v1 d'.a.sure) (h2 : Vb ok w1 v2 d'.b.now) (h3 : Vb ok w1 v3 d'.b.sure) : At g ok d' w1 :=
  ⟨h.nok, fun k hk => h.fresh k (Nat.le_trans T.size hk), v0, v1, v2, v3, hA, h0, h1, h2, h3⟩
theorem blk_tn {g q : Nat} {cs : Array Value} {t : TypeId} {w w1 : World} (h : Blk.At q cs t w) (T : Tn g w w1) (hq : q ≠ g) : Blk.At q cs t w1 := (T.block q h.lt hq).trans h
theorem cell_tn {g q j : Nat} {v : Value} {w w1 : World} (h : w.cell? ⟨q, j, none⟩ = some v) (T : Tn g w w1) (hq : q ≠ g) : w1.cell? ⟨q, j, none⟩ = some v :=
  (World.cell?_of_block (w := w) (a := ⟨q, j, none⟩) (T.block q (World.block_lt_of_cell? w _ h) hq)).trans h
/-- A row of the call's own, seen as one that is read. -/
abbrev Rb (base : Nat) (w : World) (v : Value) (xs : List Int) : Prop := Kd.R (Kd.int .u8) 5 w base (fun _ => True) v xs
theorem V_own {ok : Nat → Prop} {w : World} {base : Nat} {v : Value} {xs : List Int} (h : Rb base w v xs) (hok : ∀ k, base ≤ k → ok k) : Vb ok w v xs :=
  Kd.V_mono (Kd.R_V (Kd.R_bound h)) (fun k hk => hok k hk.2.1)
end Go.Proofs.Ytdlfabbhdelinaa.Dk
