/- How a law's arguments, read as data, are the printed texts' rows, with their bulk: for an '..Upto' statement. No condition. -/
import Derived.Test.YtopaheopdpkjbaaDoorOpens
import Derived.Test.YtopaheopdpkjbaaDoorRows
namespace Go.Proofs.YtopaheopdpkjbaaDoor
open Go.RowKit Go.Proofs.YtopaheopdpkjbaaDoorW.PrintWords
open Go.Proofs.YtopaheopdpkjbaaDoor.Rows (uptoBulk uptoBulkAll)
set_option linter.unusedVariables false
structure OpensU {α : Type} (P : Program) (t : TypeId) (d : Kd α) (G : α → Prop) (m : α → Nat) : Prop where
  sz : P.cellsOf t = d.sz
  opened : ∀ {H : Type} {enc : TypeId × Value → H} {w : World} {fuel : Nat} {cs : List Value} {x : DataW H} {ps : List MemPlace},
    DataW.trod enc P w 0 (fun _ => true) true fuel t cs = some (x, ps) → (∀ n ∈ x.weights P t, n ≤ reachBytes) → ∃ y, d.K w y cs ∧ G y ∧ m y ≤ uptoBulk x
namespace OpensU
variable {P : Program}
/-- What has no text in it. -/
theorem flat {α : Type} {t : TypeId} {d : Kd α} {G : α → Prop} (O : Opens P t d G) : OpensU P t d G (fun _ => 0) := by
  refine ⟨O.sz, fun {H enc w fuel cs x ps} h hw => ?_⟩
  obtain ⟨y, h1, h2⟩ := O.opened h hw
  exact ⟨y, h1, h2, Nat.zero_le _⟩
theorem string {t : TypeId} (hs : P.cellsOf t = 1) (ht : P.underlying t = some .string) : OpensU P t Kd.string (fun s => s.size ≤ 140737488351232) (fun s => s.size) := by
  refine ⟨hs, fun {H enc w fuel cs x ps} h hw => ?_⟩
  obtain ⟨s, hcs, hx, _⟩ := DataW.trod_string ht h
  simp only [Prod.mk.injEq] at hx
  obtain ⟨rfl, _⟩ := hx
  refine ⟨s, hcs, ?_, by simp [uptoBulk]⟩
  have := hw s.data.toList.length (by simp [DataW.weights])
  rw [Array.length_toList] at this
  exact this
theorem sum_bulk {α H : Type} (m : α → Nat) (Y : Nat → α) (D : Nat → DataW H) : ∀ L : List Nat, (∀ j ∈ L, m (Y j) ≤ uptoBulk (D j)) → ((L.map Y).map m).sum ≤ uptoBulkAll (L.map D)
  | [], _ => by simp [uptoBulkAll]
  | j :: L, h => by
    have h1 := sum_bulk m Y D L (fun i hi => h i (List.mem_cons_of_mem _ hi))
    have h2 := h j (List.mem_cons_self ..)
    simp only [List.map_cons, List.sum_cons, uptoBulkAll]
    omega
theorem slice {α : Type} {d : Kd α} {G : α → Prop} {m₀ : α → Nat} {t e : TypeId} {B : Nat} (hs : P.cellsOf t = 1) (ht : P.underlying t = some (.slice e)) (hB : P.bytesOf e = B) (O : OpensU P e d G m₀) :
    OpensU P t (Kd.slice e d) (fun xs => xs.length * B ≤ 140737488351232 ∧ ∀ x ∈ xs, G x) (fun xs => (xs.map m₀).sum) := by
  refine ⟨hs, fun {H enc w fuel cs x ps} h hw => ?_⟩
  rcases Go.Deep.open_slice ht h with ⟨rfl, _⟩ | ⟨a, len, cap, m, n, D, Pl, rfl, _, hl, hm, hmm, hx, hel⟩
  · exact ⟨[], ⟨none, 0, rfl, Nat.le_refl _, Kd.C_nil d w⟩, ⟨by simp, by simp⟩, by simp⟩
  · simp only [Prod.mk.injEq] at hx
    obtain ⟨rfl, _⟩ := hx
    have hm' : m = cap := by simpa using hmm
    have hwl : (len + (m - len)) * B ≤ reachBytes := by
      have := hw ((((List.range len).map D).length + ((List.range (m - len)).map fun j => D (len + j)).length) * P.bytesOf e) (by simp [DataW.weights, ht])
      simpa [hB] using this
    have hpick : ∀ i, i < len → ∃ y : α, (∃ c, c.length = d.sz ∧ d.K w y c ∧ ∀ q u, c[q]? = some u → w.cell? (a.add (i * d.sz + q)) = some u) ∧ G y ∧ m₀ y ≤ uptoBulk (D i) := by
      intro i hi
      obtain ⟨cs', hc, htr⟩ := hel i (by omega)
      obtain ⟨y, hy, hg, hm₀⟩ := O.opened (x := D i) (ps := Pl i) htr (fun n hn => hw n (by
        simp only [DataW.weights, ht, List.mem_cons, List.mem_append]
        exact .inr (.inl (Opens.weights_all (List.mem_map.2 ⟨i, by simpa using hi, rfl⟩) n hn))))
      obtain ⟨_, hcl, hcc⟩ := World.cells?_some hc
      rw [O.sz] at hcl hcc
      refine ⟨y, ⟨cs', hcl, hy, fun q u hu => ?_⟩, hg, hm₀⟩
      have hq : q < d.sz := by have := (List.getElem?_eq_some_iff.1 hu).1; omega
      have h2 := hcc q hq
      have e1 : (a.add (i * d.sz)).add q = a.add (i * d.sz + q) := by
        unfold Addr.add
        split <;> split <;> simp_all <;> omega
      rw [e1] at h2
      rw [h2, hu]
    have hne : len = 0 ∨ 0 < len := Nat.eq_zero_or_pos len
    rcases hne with h0 | hpos
    · subst h0
      exact ⟨[], ⟨some a, cap, rfl, by simp, ⟨rfl, by simp, fun h => absurd h (Nat.lt_irrefl 0)⟩⟩, ⟨by simp, by simp⟩, by simp⟩
    · haveI : Inhabited α := ⟨Classical.choose (hpick 0 hpos)⟩
      obtain ⟨Y, hY⟩ := Go.Deep.choose_lt hpick
      have hlen : ((List.range len).map Y).length = len := by simp
      refine ⟨(List.range len).map Y, ⟨some a, cap, by rw [hlen], by rw [hlen]; exact hl, ?_⟩, ⟨?_, ?_⟩, ?_⟩
      · refine ⟨rfl, ?_, fun _ => ⟨a, rfl, fun j p hj => ?_⟩⟩
        · rw [hlen]
          unfold maxLen at hm
          omega
        · have hj' : j < len := by have := (List.getElem?_eq_some_iff.1 hj).1; simpa using this
          have : p = Y j := by
            rw [List.getElem?_map, List.getElem?_range hj'] at hj
            simpa using hj.symm
          subst this
          exact (hY j hj').1
      · rw [hlen]
        refine Nat.le_trans (Nat.mul_le_mul_right _ ?_) hwl
        omega
      · intro y hy
        obtain ⟨j, hj, rfl⟩ := List.mem_map.1 hy
        exact (hY j (by simpa using hj)).2.1
      · have := sum_bulk m₀ Y D (List.range len) (fun j hj => (hY j (by simpa using hj)).2.2)
        simp only [uptoBulk]
        omega
/-- Fields in line, from a place on. -/
structure FieldsU {α : Type} (P : Program) (fs : List Field) (o : Nat) (d : Kd α) (G : α → Prop) (m : α → Nat) : Prop where
  opened : ∀ {H : Type} {enc : TypeId × Value → H} {w : World} {n : Nat} {cs : List Value} {xs : List (DataW H × List MemPlace)},
    (∀ (i : Nat) (f : Field), fs[i]? = some f → DataW.trod enc P w 0 (fun _ => true) true n f.type ((cs.drop f.offset).take (P.cellsOf f.type)) = xs[i]?) → xs.length = fs.length →
    (∀ q ∈ DataW.weightsEach P (fs.map (·.type)) (xs.map (·.1)), q ≤ reachBytes) → ∃ y, d.K w y ((cs.drop o).take d.sz) ∧ G y ∧ m y ≤ uptoBulkAll (xs.map (·.1))
theorem one {α : Type} {d : Kd α} {G : α → Prop} {m₀ : α → Nat} {f : Field} {o : Nat} (ho : f.offset = o) (O : OpensU P f.type d G m₀) : FieldsU P [f] o d G m₀ := by
  refine ⟨fun {H enc w n cs xs} h hl hw => ?_⟩
  obtain ⟨x, rfl⟩ : ∃ x, xs = [x] := by
    match xs, hl with
    | [x], _ => exact ⟨x, rfl⟩
  have h0 := h 0 f rfl
  subst ho
  rw [O.sz] at h0
  obtain ⟨y, h1, h2, h3⟩ := O.opened (x := x.1) (ps := x.2) h0 (fun q hq => hw q (by simpa [DataW.weightsEach] using hq))
  exact ⟨y, h1, h2, by simp only [List.map_cons, List.map_nil, uptoBulkAll]; omega⟩
theorem cons {α β : Type} {a : Kd α} {b : Kd β} {G : α → Prop} {G' : β → Prop} {m₀ : α → Nat} {m₁ : β → Nat} {f : Field} {fs : List Field} {o : Nat} (ho : f.offset = o) (O : OpensU P f.type a G m₀) (R : FieldsU P fs (o + a.sz) b G' m₁) :
    FieldsU P (f :: fs) o (Kd.pair a b) (fun p => G p.1 ∧ G' p.2) (fun p => m₀ p.1 + m₁ p.2) := by
  refine ⟨fun {H enc w n cs xs} h hl hw => ?_⟩
  obtain ⟨x, xs, rfl⟩ : ∃ x xs', xs = x :: xs' := by
    match xs, hl with
    | x :: xs', _ => exact ⟨x, xs', rfl⟩
  have h0 := h 0 f rfl
  subst ho
  rw [O.sz] at h0
  obtain ⟨y, hy, hg, hm1⟩ := O.opened (x := x.1) (ps := x.2) h0 (fun q hq => hw q (by simp only [List.map_cons, DataW.weightsEach, List.mem_append]; exact .inl hq))
  obtain ⟨z, hz, hg', hm2⟩ := R.opened (xs := xs) (cs := cs) (n := n) (enc := enc) (w := w) (fun i g hi => h (i + 1) g hi) (by simpa using hl) (fun q hq => hw q (by simp only [List.map_cons, DataW.weightsEach, List.mem_append]; exact .inr hq))
  refine ⟨(y, z), ⟨_, _, ?_, hy, hz⟩, ⟨hg, hg'⟩, by simp only [List.map_cons, uptoBulkAll]; omega⟩
  rw [show ((cs.drop f.offset).take (Kd.pair a b).sz) = (cs.drop f.offset).take (a.sz + b.sz) from rfl, List.take_add, List.drop_drop]
theorem struct_ {α β : Type} {d : Kd α} {G : α → Prop} {m₀ : α → Nat} {t : TypeId} {fs : Array Field} (hs : P.cellsOf t = d.sz) (ht : P.underlying t = some (.struct fs)) (F : FieldsU P fs.toList 0 d G m₀) (f : β → α) (g : α → β) (hfg : ∀ y, f (g y) = y) :
    OpensU P t (Kd.iso d f) (fun x => G (f x)) (fun x => m₀ (f x)) := by
  refine ⟨hs, fun {H enc w fuel cs x ps} h hw => ?_⟩
  obtain ⟨xs, n, _, hx, hl, hxl, hel⟩ := DataW.trod_struct ht h
  simp only [Prod.mk.injEq] at hx
  obtain ⟨rfl, _⟩ := hx
  obtain ⟨y, hy, hg, hm⟩ := F.opened (cs := cs) (xs := xs) (n := n) (fun i f hi => hel i f (by simpa using hi)) (by simpa using hxl) (fun q hq => hw q (by simpa [DataW.weights, ht] using hq))
  refine ⟨g y, ?_, ?_, by rw [hfg]; simp only [uptoBulk]; omega⟩
  · show d.K w (f (g y)) cs
    rw [hfg]
    rw [List.drop_zero, ← hs, ← hl, List.take_length] at hy
    exact hy
  · rw [hfg]
    exact hg
/-- An argument. -/
theorem argument {α : Type} {d : Kd α} {G : α → Prop} {m₀ : α → Nat} {t : TypeId} (O : OpensU P t d G m₀) {H : Type} {enc : TypeId × Value → H} {w : World} {v : Value} {x : DataW H} {ps : List MemPlace}
    {ts : List TypeId} {ds : List (DataW H)} {j : Nat} (hsz : (DataW.weightsEach P ts ds).all (· ≤ reachBytes) = true) (ht : ts[j]? = some t) (hd : ds[j]? = some x) (h : DataW.Trod enc P w 0 (fun _ => true) true t v x ps) : ∃ y, d.K w y v.cells.toList ∧ G y ∧ m₀ y ≤ uptoBulk x := by
  obtain ⟨fuel, hf⟩ := h
  refine O.opened (x := x) (ps := ps) hf (fun n hn => ?_)
  have := List.all_eq_true.1 hsz n (DataW.weights_mem_each ht hd n hn)
  simpa using this
theorem part_le {H : Type} {d : DataW H} : ∀ {l : List (DataW H)}, d ∈ l → uptoBulk d ≤ uptoBulkAll l
  | [], h => by cases h
  | x :: r, h => by
    simp only [uptoBulkAll]
    rcases List.mem_cons.1 h with rfl | h
    · omega
    · have := part_le h
      omega
/-- The bound, as the builder hands it over. -/
theorem bound {H : Type} {l : List (DataW H)} (hk : Rows.uptoSmall H l = true) : uptoBulkAll l ≤ 1048576 := by
  simpa [Rows.uptoSmall] using hk
end OpensU
end Go.Proofs.YtopaheopdpkjbaaDoor
