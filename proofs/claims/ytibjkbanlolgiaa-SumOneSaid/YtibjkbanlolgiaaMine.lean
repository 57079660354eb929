/- Small laws that the printed texts of this seat lean on: a block of the heap that is known, read as a row. No condition. -/
import Derived.Test.YtibjkbanlolgiaaProg
import Derived.Laws.Strings2
import Derived.Lib.SmallJoins
import Derived.WalkKit
import Derived.Test.YtibjkbanlolgiaaWMore
namespace Go.Proofs.YtibjkbanlolgiaaW.PrintWords
open Go.RowKit
theorem addr_add_zero (g j : Nat) : (⟨g, 0, none⟩ : Addr).add j = ⟨g, j, none⟩ := by
  have h : (⟨g, 0, none⟩ : Addr).add j = ⟨g, 0 + j, none⟩ := by unfold Addr.add; split <;> simp_all
  rw [h, Nat.zero_add]
theorem heap_new (w : World) (o : Obj) {n : Nat} (hn : n = w.heap.size) : (w.alloc o).heap[n]? = some o := by
  subst hn
  show (w.heap.push o)[w.heap.size]? = _
  simp
theorem heap_old (w : World) (o : Obj) {n : Nat} (hn : n < w.heap.size) : (w.alloc o).heap[n]? = w.heap[n]? := Below.heap_alloc w o n hn
theorem size_alloc (w : World) (o : Obj) : (w.alloc o).heap.size = w.heap.size + 1 := by
  show (w.heap.push o).size = _
  simp
namespace Kd
theorem C_ints_block {W : World} {g e : Nat} {fr : Nat × Nat} {k : IntKind} {xs : List Int} {cs : Array Value} (h : W.heap[g]? = some (.cells cs e fr)) (hcs : cs.toList.take xs.length = xs.map (Value.int k)) (hn : xs.length ≤ 9223372036854775807) : Kd.C (Kd.int k) W (some ⟨g, 0, none⟩) xs.length xs := by
  refine ⟨rfl, hn, fun _ => ⟨_, rfl, fun j p hj => ⟨[Value.int k p], rfl, rfl, fun i u hu => ?_⟩⟩⟩
  have hi : i = 0 := by
    rcases i with _ | i
    · rfl
    · simp at hu
  subst hi
  obtain rfl : Value.int k p = u := by simpa using hu
  have hj' : j < xs.length := (List.getElem?_eq_some_iff.1 hj).1
  have h1 : (cs.toList.take xs.length)[j]? = some (Value.int k p) := by rw [hcs, List.getElem?_map, hj]; rfl
  rw [List.getElem?_take, if_pos hj'] at h1
  have e1 : ((⟨g, 0, none⟩ : Addr).add (j * (Kd.int k).sz + 0)) = ⟨g, j, none⟩ := by
    show (⟨g, 0, none⟩ : Addr).add (j * 1 + 0) = _
    rw [addr_add_zero, Nat.mul_one, Nat.add_zero]
  rw [e1, Go.Joins.cell_of_block h]
  simpa using h1
theorem C_slices_block {α : Type} {d : Kd α} {t : Nat} {W : World} {g e : Nat} {fr : Nat × Nat} {xs : List (List α)} {cs : Array Value} (h : W.heap[g]? = some (.cells cs e fr))
    (hcs : ∀ (j : Nat) (p : List α), xs[j]? = some p → ∃ A c, cs[j]? = some (Value.slice A p.length c) ∧ p.length ≤ c ∧ d.C W A p.length p) (hn : xs.length ≤ 9223372036854775807) : Kd.C (Kd.slice t d) W (some ⟨g, 0, none⟩) xs.length xs := by
  refine ⟨rfl, hn, fun _ => ⟨_, rfl, fun j p hj => ?_⟩⟩
  obtain ⟨A, c, hc, hl, hC⟩ := hcs j p hj
  refine ⟨[Value.slice A p.length c], rfl, ⟨A, c, rfl, hl, hC⟩, fun i u hu => ?_⟩
  have hi : i = 0 := by
    rcases i with _ | i
    · rfl
    · simp at hu
  subst hi
  obtain rfl : Value.slice A p.length c = u := by simpa using hu
  have e1 : ((⟨g, 0, none⟩ : Addr).add (j * (Kd.slice t d).sz + 0)) = ⟨g, j, none⟩ := by
    show (⟨g, 0, none⟩ : Addr).add (j * 1 + 0) = _
    rw [addr_add_zero, Nat.mul_one, Nat.add_zero]
  rw [e1, Go.Joins.cell_of_block h]
  exact hc
end Kd
end Go.Proofs.YtibjkbanlolgiaaW.PrintWords
