/- A block of the call's own, whole: its cells, what a store turns, what leaves it alone. No condition but those typed. -/
import Derived.Test.YtljlkpfiebcoeaaGreatDoorMine
namespace Go.Proofs.YtljlkpfiebcoeaaGreatDoor.Blk
open Go.RowKit Go.Proofs.YtljlkpfiebcoeaaGreatDoorW.PrintWords Go.Proofs.YtljlkpfiebcoeaaGreatDoorW.PrintLast Go.Proofs.YtljlkpfiebcoeaaGreatDoorW.PrintMore
set_option linter.unusedVariables false
/-- Block b holds these cells. -/
def At (b : Nat) (cs : Array Value) (t : TypeId) (w : World) : Prop := w.heap[b]? = some (.cells cs t)
theorem At.lt {b : Nat} {cs : Array Value} {t : TypeId} {w : World} (h : At b cs t w) : b < w.heap.size := by
  unfold At at h
  exact (Array.getElem?_eq_some_iff.1 h).1
theorem At.cell {b : Nat} {cs : Array Value} {t : TypeId} {w : World} (h : At b cs t w) (i : Nat) : w.cell? ⟨b, i, none⟩ = cs[i]? := by
  unfold World.cell?
  rw [show w.heap[b]? = some (.cells cs t) from h]
  rfl
theorem At.frozen {b : Nat} {cs : Array Value} {t : TypeId} {w : World} (h : At b cs t w) (i : Nat) : w.frozen? ⟨b, i, none⟩ = false := by
  unfold World.frozen?
  rw [show w.heap[b]? = some (.cells cs t) from h]
  simp
theorem At.new (w : World) (cs : Array Value) (t : TypeId) : At w.heap.size cs t (w.alloc (.cells cs t)) := heap_new w _ rfl
theorem At.set {b : Nat} {cs : Array Value} {t : TypeId} {w : World} (h : At b cs t w) (i : Nat) (v : Value) : At b (cs.setIfInBounds i v) t (w.setCell ⟨b, i, none⟩ v) := by
  unfold At World.setCell at *
  simp only []
  rw [Array.getElem?_modify]
  simp [h]
theorem At.set_other {b : Nat} {cs : Array Value} {t : TypeId} {w : World} (h : At b cs t w) {g : Nat} (hg : g ≠ b) (i : Nat) (v : Value) : At b cs t (w.setCell ⟨g, i, none⟩ v) := by
  unfold At World.setCell at *
  simp only []
  rw [Array.getElem?_modify]
  simp [h, hg]
theorem At.alloc {b : Nat} {cs : Array Value} {t : TypeId} {w : World} (h : At b cs t w) (o : Obj) : At b cs t (w.alloc o) := by
  have hl := h.lt
  have hb : Below w.heap.size w (w.alloc o) := below_alloc (Below.refl _ _) _
  exact (hb.block b hl).trans h
theorem At.drew {b : Nat} {cs : Array Value} {t : TypeId} {w : World} (h : At b cs t w) : At b cs t w.drew := h
theorem At.below {b : Nat} {cs : Array Value} {t : TypeId} {w w' : World} {B : Nat} (h : At b cs t w) (hb : Below B w w') (hB : b < B) : At b cs t w' := (hb.block b hB).trans h
theorem below_self {b i : Nat} {w W : World} {v : Value} (h : Below b w W) : Below b w (W.setCell ⟨b, i, none⟩ v) := h.setCell (Nat.le_refl _) _
/-- Cells written one behind the other. -/
def fill (b : Nat) : Nat → List Value → World → World
  | _, [], w => w
  | i, v :: r, w => fill b (i + 1) r (w.setCell ⟨b, i, none⟩ v)
theorem At.fills {b : Nat} {t : TypeId} : ∀ (vs pre rest : List Value) (w : World), rest.length = vs.length → At b (pre ++ rest).toArray t w → At b (pre ++ vs).toArray t (fill b pre.length vs w)
  | [], pre, rest, w, hl, h => by
    obtain rfl : rest = [] := List.eq_nil_of_length_eq_zero hl
    exact h
  | v :: vs, pre, [], w, hl, h => by simp at hl
  | v :: vs, pre, r0 :: rest, w, hl, h => by
    have h1 := h.set pre.length v
    have e : (pre ++ r0 :: rest).toArray.setIfInBounds pre.length v = ((pre ++ [v]) ++ rest).toArray := by
      rw [List.setIfInBounds_toArray, List.set_append_right _ _ (Nat.le_refl _), Nat.sub_self]
      simp
    rw [e] at h1
    have h2 := At.fills vs (pre ++ [v]) rest _ (by simpa using hl) h1
    rw [List.length_append, List.length_singleton] at h2
    rw [show pre ++ v :: vs = pre ++ [v] ++ vs from by simp]
    exact h2
/-- A whole block written anew. -/
theorem At.filled {b : Nat} {t : TypeId} {cs : Array Value} {w : World} (h : At b cs t w) (vs : List Value) (hl : cs.size = vs.length) : At b vs.toArray t (fill b 0 vs w) := by
  obtain ⟨l⟩ := cs
  exact At.fills vs [] l w hl h
theorem below_fill {B b : Nat} {w : World} (hB : B ≤ b) : ∀ (vs : List Value) (i : Nat) (W : World), Below B w W → Below B w (fill b i vs W)
  | [], _, _, h => h
  | v :: vs, i, W, h => below_fill hB vs (i + 1) _ (h.setCell hB _)
end Go.Proofs.YtljlkpfiebcoeaaGreatDoor.Blk
