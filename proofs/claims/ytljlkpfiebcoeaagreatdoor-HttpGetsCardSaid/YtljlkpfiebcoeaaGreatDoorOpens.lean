/- How a law's arguments, read as data, are the printed texts' rows: for any nesting of whole numbers, bools, texts, slices, structs and arrays; with the bounds that the reading's weight gives. No condition. -/
import Derived.Test.YtljlkpfiebcoeaaGreatDoorMine
import Derived.Deep.Slices
import Derived.SizedLaws
import Derived.OpenShut
import Derived.Lib.SmallJoins
namespace Go.Proofs.YtljlkpfiebcoeaaGreatDoorW.PrintWords
open Go.RowKit
structure Opens {α : Type} (P : Program) (t : TypeId) (d : Kd α) (G : α → Prop) : Prop where
  sz : P.cellsOf t = d.sz
  opened : ∀ {H : Type} {enc : TypeId × Value → H} {w : World} {fuel : Nat} {cs : List Value} {x : DataW H} {ps : List MemPlace},
    DataW.trod enc P w 0 (fun _ => true) true fuel t cs = some (x, ps) → (∀ n ∈ x.weights P t, n ≤ reachBytes) → ∃ y, d.K w y cs ∧ G y
namespace Opens
variable {P : Program}
theorem int {t : TypeId} {k : IntKind} (hs : P.cellsOf t = 1) (ht : P.underlying t = some (.int k)) : Opens P t (Kd.int k) (fun x => (Lit.int k x).wf = true) := by
  refine ⟨hs, fun {H enc w fuel cs x ps} h _ => ?_⟩
  obtain ⟨n, hcs, _, hwf⟩ := DataW.trod_int ht h
  exact ⟨n, hcs, hwf⟩
theorem bool {t : TypeId} (hs : P.cellsOf t = 1) (ht : P.underlying t = some .bool) : Opens P t Kd.bool (fun _ => True) := by
  refine ⟨hs, fun {H enc w fuel cs x ps} h _ => ?_⟩
  obtain ⟨n, hcs, _⟩ := DataW.trod_bool ht h
  exact ⟨n, hcs, trivial⟩
theorem string {t : TypeId} (hs : P.cellsOf t = 1) (ht : P.underlying t = some .string) : Opens P t Kd.string (fun s => s.size ≤ 140737488351232) := by
  refine ⟨hs, fun {H enc w fuel cs x ps} h hw => ?_⟩
  obtain ⟨s, hcs, hx, _⟩ := DataW.trod_string ht h
  simp only [Prod.mk.injEq] at hx
  obtain ⟨rfl, _⟩ := hx
  refine ⟨s, hcs, ?_⟩
  have := hw s.data.toList.length (by simp [DataW.weights])
  rw [Array.length_toList] at this
  exact this
theorem weights_all {H : Type} {P : Program} {e : TypeId} : ∀ {l : List (DataW H)} {d : DataW H}, d ∈ l → ∀ n ∈ d.weights P e, n ∈ DataW.weightsAll P e l
  | [], _, hd, _, _ => by cases hd
  | d0 :: l, d, hd, n, hn => by
    simp only [DataW.weightsAll, List.mem_append]
    rcases List.mem_cons.1 hd with rfl | hd
    · exact .inl hn
    · exact .inr (weights_all hd n hn)
theorem slice {α : Type} {d : Kd α} {G : α → Prop} {t e : TypeId} {B : Nat} (hs : P.cellsOf t = 1) (ht : P.underlying t = some (.slice e)) (hB : P.bytesOf e = B) (O : Opens P e d G) :
    Opens P t (Kd.slice e d) (fun xs => xs.length * B ≤ 140737488351232 ∧ ∀ x ∈ xs, G x) := by
  refine ⟨hs, fun {H enc w fuel cs x ps} h hw => ?_⟩
  rcases Go.Deep.open_slice ht h with ⟨rfl, _⟩ | ⟨a, len, cap, m, n, D, Pl, rfl, _, hl, hm, hmm, hx, hel⟩
  · exact ⟨[], ⟨none, 0, rfl, Nat.le_refl _, Kd.C_nil d w⟩, by simp, by simp⟩
  · simp only [Prod.mk.injEq] at hx
    obtain ⟨rfl, _⟩ := hx
    have hm' : m = cap := by simpa using hmm
    have hwl : (len + (m - len)) * B ≤ reachBytes := by
      have := hw ((((List.range len).map D).length + ((List.range (m - len)).map fun j => D (len + j)).length) * P.bytesOf e) (by simp [DataW.weights, ht])
      simpa [hB] using this
    have hpick : ∀ i, i < len → ∃ y : α, (∃ c, c.length = d.sz ∧ d.K w y c ∧ ∀ q u, c[q]? = some u → w.cell? (a.add (i * d.sz + q)) = some u) ∧ G y := by
      intro i hi
      obtain ⟨cs', hc, htr⟩ := hel i (by omega)
      obtain ⟨y, hy, hg⟩ := O.opened (x := D i) (ps := Pl i) htr (fun n hn => hw n (by
        simp only [DataW.weights, ht, List.mem_cons, List.mem_append]
        exact .inr (.inl (weights_all (List.mem_map.2 ⟨i, by simpa using hi, rfl⟩) n hn))))
      obtain ⟨_, hcl, hcc⟩ := World.cells?_some hc
      rw [O.sz] at hcl hcc
      refine ⟨y, ⟨cs', hcl, hy, fun q u hu => ?_⟩, hg⟩
      have hq : q < d.sz := by have := (List.getElem?_eq_some_iff.1 hu).1; omega
      have h2 := hcc q hq
      have e1 : (a.add (i * d.sz)).add q = a.add (i * d.sz + q) := by
        unfold Addr.add
        split <;> split <;> simp_all <;> omega
      rw [e1] at h2
      rw [h2, hu]
    have hne : len = 0 ∨ 0 < len := Nat.eq_zero_or_pos len
    rcases hne with h0 | hpos
    · subst h0
      exact ⟨[], ⟨some a, cap, rfl, by simp, ⟨rfl, by simp, fun h => absurd h (Nat.lt_irrefl 0)⟩⟩, by simp, by simp⟩
    · haveI : Inhabited α := ⟨Classical.choose (hpick 0 hpos)⟩
      obtain ⟨Y, hY⟩ := Go.Deep.choose_lt hpick
      have hlen : ((List.range len).map Y).length = len := by simp
      refine ⟨(List.range len).map Y, ⟨some a, cap, by rw [hlen], by rw [hlen]; exact hl, ?_⟩, ?_, ?_⟩
      · refine ⟨rfl, ?_, fun _ => ⟨a, rfl, fun j p hj => ?_⟩⟩
        · rw [hlen]
          unfold maxLen at hm
          omega
        · have hj' : j < len := by have := (List.getElem?_eq_some_iff.1 hj).1; simpa using this
          have : p = Y j := by
            rw [List.getElem?_map, List.getElem?_range hj'] at hj
            simpa using hj.symm
          subst this
          exact (hY j hj').1
      · rw [hlen]
        refine Nat.le_trans (Nat.mul_le_mul_right _ ?_) hwl
        omega
      · intro y hy
        obtain ⟨j, hj, rfl⟩ := List.mem_map.1 hy
        exact (hY j (by simpa using hj)).2
/-- Fields in line, from a place on. -/
structure Fields {α : Type} (P : Program) (fs : List Field) (o : Nat) (d : Kd α) (G : α → Prop) : Prop where
  opened : ∀ {H : Type} {enc : TypeId × Value → H} {w : World} {n : Nat} {cs : List Value} {xs : List (DataW H × List MemPlace)},
    (∀ (i : Nat) (f : Field), fs[i]? = some f → DataW.trod enc P w 0 (fun _ => true) true n f.type ((cs.drop f.offset).take (P.cellsOf f.type)) = xs[i]?) → xs.length = fs.length →
    (∀ q ∈ DataW.weightsEach P (fs.map (·.type)) (xs.map (·.1)), q ≤ reachBytes) → ∃ y, d.K w y ((cs.drop o).take d.sz) ∧ G y
theorem one {α : Type} {d : Kd α} {G : α → Prop} {f : Field} {o : Nat} (ho : f.offset = o) (O : Opens P f.type d G) : Fields P [f] o d G := by
  refine ⟨fun {H enc w n cs xs} h hl hw => ?_⟩
  obtain ⟨x, rfl⟩ : ∃ x, xs = [x] := by
    match xs, hl with
    | [x], _ => exact ⟨x, rfl⟩
  have h0 := h 0 f rfl
  subst ho
  rw [O.sz] at h0
  exact O.opened (x := x.1) (ps := x.2) h0 (fun q hq => hw q (by simpa [DataW.weightsEach] using hq))
theorem cons {α β : Type} {a : Kd α} {b : Kd β} {G : α → Prop} {G' : β → Prop} {f : Field} {fs : List Field} {o : Nat} (ho : f.offset = o) (O : Opens P f.type a G) (R : Fields P fs (o + a.sz) b G') :
    Fields P (f :: fs) o (Kd.pair a b) (fun p => G p.1 ∧ G' p.2) := by
  refine ⟨fun {H enc w n cs xs} h hl hw => ?_⟩
  obtain ⟨x, xs, rfl⟩ : ∃ x xs', xs = x :: xs' := by
    match xs, hl with
    | x :: xs', _ => exact ⟨x, xs', rfl⟩
  have h0 := h 0 f rfl
  subst ho
  rw [O.sz] at h0
  obtain ⟨y, hy, hg⟩ := O.opened (x := x.1) (ps := x.2) h0 (fun q hq => hw q (by simp only [List.map_cons, DataW.weightsEach, List.mem_append]; exact .inl hq))
  obtain ⟨z, hz, hg'⟩ := R.opened (xs := xs) (cs := cs) (n := n) (enc := enc) (w := w) (fun i g hi => h (i + 1) g hi) (by simpa using hl) (fun q hq => hw q (by simp only [List.map_cons, DataW.weightsEach, List.mem_append]; exact .inr hq))
  refine ⟨(y, z), ⟨_, _, ?_, hy, hz⟩, hg, hg'⟩
  rw [show ((cs.drop f.offset).take (Kd.pair a b).sz) = (cs.drop f.offset).take (a.sz + b.sz) from rfl, List.take_add, List.drop_drop]
theorem struct_ {α β : Type} {d : Kd α} {G : α → Prop} {t : TypeId} {fs : Array Field} (hs : P.cellsOf t = d.sz) (ht : P.underlying t = some (.struct fs)) (F : Fields P fs.toList 0 d G) (f : β → α) (g : α → β) (hfg : ∀ y, f (g y) = y) :
    Opens P t (Kd.iso d f) (fun x => G (f x)) := by
  refine ⟨hs, fun {H enc w fuel cs x ps} h hw => ?_⟩
  obtain ⟨xs, n, _, hx, hl, hxl, hel⟩ := DataW.trod_struct ht h
  simp only [Prod.mk.injEq] at hx
  obtain ⟨rfl, _⟩ := hx
  obtain ⟨y, hy, hg⟩ := F.opened (cs := cs) (xs := xs) (n := n) (fun i f hi => hel i f (by simpa using hi)) (by simpa using hxl) (fun q hq => hw q (by simpa [DataW.weights, ht] using hq))
  refine ⟨g y, ?_, ?_⟩
  · show d.K w (f (g y)) cs
    rw [hfg]
    rw [List.drop_zero, ← hs, ← hl, List.take_length] at hy
    exact hy
  · rw [hfg]
    exact hg
theorem arr {α : Type} {d : Kd α} {G : α → Prop} {t e : TypeId} {n : Nat} (hd : 0 < d.sz) (hs : P.cellsOf t = n * d.sz) (ht : P.underlying t = some (.array n e)) (O : Opens P e d G) :
    Opens P t (Kd.arr n d hd) (fun xs => ∀ x ∈ xs, G x) := by
  refine ⟨hs, fun {H enc w fuel cs x ps} h hw => ?_⟩
  obtain ⟨xs, m, _, hx, hl, hxl, hel⟩ := DataW.trod_array ht h
  simp only [Prod.mk.injEq] at hx
  obtain ⟨rfl, _⟩ := hx
  have hpick : ∀ i, i < n → ∃ y : α, d.K w y ((cs.drop (i * d.sz)).take d.sz) ∧ G y := by
    intro i hi
    have h0 := hel i hi
    rw [O.sz, List.getElem?_eq_getElem (by omega)] at h0
    exact O.opened (x := (xs[i]'(by omega)).1) (ps := (xs[i]'(by omega)).2) h0 (fun q hq => hw q (by
      simp only [DataW.weights, ht]
      exact weights_all (List.mem_map.2 ⟨xs[i]'(by omega), List.getElem_mem _, rfl⟩) q hq))
  rcases Nat.eq_zero_or_pos n with h0 | hpos
  · subst h0
    refine ⟨[], ⟨rfl, ?_, fun j p hj => by simp at hj⟩, by simp⟩
    rw [hl, hs]
    simp
  · haveI : Inhabited α := ⟨Classical.choose (hpick 0 hpos)⟩
    obtain ⟨Y, hY⟩ := Go.Deep.choose_lt hpick
    refine ⟨(List.range n).map Y, ⟨by simp, ⟨by rw [hl, hs]; simp, fun j p hj => ?_⟩⟩, ?_⟩
    · have hj' : j < n := by have := (List.getElem?_eq_some_iff.1 hj).1; simpa using this
      have : p = Y j := by
        rw [List.getElem?_map, List.getElem?_range hj'] at hj
        simpa using hj.symm
      subst this
      exact (hY j hj').1
    · intro y hy
      obtain ⟨j, hj, rfl⟩ := List.mem_map.1 hy
      exact (hY j (by simpa using hj)).2
/-- An argument. -/
theorem argument {α : Type} {d : Kd α} {G : α → Prop} {t : TypeId} (O : Opens P t d G) {H : Type} {enc : TypeId × Value → H} {w : World} {v : Value} {x : DataW H} {ps : List MemPlace}
    {ts : List TypeId} {ds : List (DataW H)} {j : Nat} (hsz : (DataW.weightsEach P ts ds).all (· ≤ reachBytes) = true) (ht : ts[j]? = some t) (hd : ds[j]? = some x) (h : DataW.Trod enc P w 0 (fun _ => true) true t v x ps) : ∃ y, d.K w y v.cells.toList ∧ G y := by
  obtain ⟨fuel, hf⟩ := h
  refine O.opened (x := x) (ps := ps) hf (fun n hn => ?_)
  have := List.all_eq_true.1 hsz n (DataW.weights_mem_each ht hd n hn)
  simpa using this
end Opens
namespace Kd
/-- A slice that was handed in: its row. -/
theorem K_slice {α : Type} {d : Kd α} {e : TypeId} {w : World} {xs : List α} {a : Option Addr} {n c : Nat} (h : (Kd.slice e d).K w xs (Value.slice a n c).cells.toList) : n = xs.length ∧ xs.length ≤ c ∧ d.C w a xs.length xs := by
  obtain ⟨A, c', hcs, hl, hC⟩ := h
  have : Value.slice a n c = Value.slice A xs.length c' := by simpa [Value.cells] using hcs
  injection this with h1 h2 h3
  subst h1; subst h2; subst h3
  exact ⟨rfl, hl, hC⟩
/-- What was handed in, as what may be shared. -/
theorem V_of_C {α : Type} {d : Kd α} (hd : Kd.Heap d) {e : TypeId} {w : World} {xs : List α} {A : Option Addr} {c : Nat} (hl : xs.length ≤ c) (hC : d.C w A xs.length xs) : Kd.V d e w w.heap.size (fun _ => True) (.slice A xs.length c) xs := by
  exact V_mk hl (fun W' hW => hd.C (fun k hk => hW k trivial hk) hC)
end Kd
end Go.Proofs.YtljlkpfiebcoeaaGreatDoorW.PrintWords
