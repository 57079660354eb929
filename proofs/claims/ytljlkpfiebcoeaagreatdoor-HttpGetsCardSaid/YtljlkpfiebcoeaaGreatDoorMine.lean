/- Small laws that the printed texts of this seat lean on: a block of the heap that is known, read as a row. No condition. -/
import Derived.Test.YtljlkpfiebcoeaaGreatDoorProg
import Derived.Laws.Strings2
import Derived.Lib.SmallJoins
import Derived.WalkKit
import Derived.Test.YtljlkpfiebcoeaaGreatDoorWMore
namespace Go.Proofs.YtljlkpfiebcoeaaGreatDoorW.PrintWords
open Go.RowKit
theorem addr_add_zero (g j : Nat) : (⟨g, 0, none⟩ : Addr).add j = ⟨g, j, none⟩ := by
  have h : (⟨g, 0, none⟩ : Addr).add j = ⟨g, 0 + j, none⟩ := by unfold Addr.add; split <;> simp_all
  rw [h, Nat.zero_add]
theorem heap_new (w : World) (o : Obj) {n : Nat} (hn : n = w.heap.size) : (w.alloc o).heap[n]? = some o := by
  subst hn
  show (w.heap.push o)[w.heap.size]? = _
  simp
theorem heap_old (w : World) (o : Obj) {n : Nat} (hn : n < w.heap.size) : (w.alloc o).heap[n]? = w.heap[n]? := Below.heap_alloc w o n hn
theorem size_alloc (w : World) (o : Obj) : (w.alloc o).heap.size = w.heap.size + 1 := by
  show (w.heap.push o).size = _
  simp
section
variable {P : Program} {ops : Array Oper} {rest : List Oper} {Q : Exit → Act → World → Prop}
/-- A call of a function value that captures nothing, held in a slot. -/
theorem gate_calleeT {o : Oper} {a : Act} {W : World} {c : Operand} {xs : Array Operand} {ts : Array TypeId} (_ho : o.op = .call { callee := .value c, args := xs, argTypes := ts }) (h : wpList P ops Q (o :: rest) a W) : wpList P ops Q (o :: rest) a W := h
theorem goesT_ {oi : Oper} {N : Option Tmp} {a : Act} {w : World} {K : Act → World → Prop} {f : FuncId} {fn : Func} {c : Operand} {xs : Array Operand} {ts : Array TypeId} (hf : P.funcs[f]? = some fn) (hname : (fn.name == "runtime.NumGoroutine") = false) (hb : fn.body.isSome = true) (args : Array Value)
    (hw : Region.wanted oi (yielded ops a.tmps) = true) (hN : oi.dst = N) (hop : oi.op = .call { callee := .value c, args := xs, argTypes := ts }) (hc : a.eval c = Value.func (.func f) #[] #[]) (hargs : xs.map a.eval = args)
    (h : Calls P f args w fun e w' => ∃ v, e = .returned v ∧ K (a.put N v) w') : if Region.wanted oi (yielded ops a.tmps) = true then Oper.wp P oi a w K Q else K (a.put N undef) w := by
  refine PrintLast.call_ f args hw hN ?_ h
  have he := PrintLast.enters_ hf hname hb args w
  unfold execOp
  simp [hop, hc, resolve, Deferred.ofValue, invoke, hargs, he]
theorem goesLT_ {oi : Oper} {a : Act} {w : World} (N : Option Tmp) (hd : oi.dst = N) (hg : oi.guard = none) {f : FuncId} {fn : Func} {c : Operand} {xs : Array Operand} {ts : Array TypeId} (hf : P.funcs[f]? = some fn) (hname : (fn.name == "runtime.NumGoroutine") = false) (hb : fn.body.isSome = true) (args : Array Value)
    (hop : oi.op = .call { callee := .value c, args := xs, argTypes := ts }) (hc : a.eval c = Value.func (.func f) #[] #[]) (hargs : xs.map a.eval = args)
    (h : Calls P f args w fun e w' => ∃ v, e = .returned v ∧ wpList P ops Q rest (a.put N v) w') : wpList P ops Q (oi :: rest) a w := by
  refine wpList_plain hg fun K hK => ?_
  have he := PrintLast.enters_ hf hname hb args w
  have hrun : (execOp a.eval oi).run P w = .ok (.enter f args) w := by
    unfold execOp
    simp [hop, hc, resolve, Deferred.ofValue, invoke, hargs, he]
  unfold Oper.wp
  rw [hrun, Oper.upon_enter]
  refine h.mono fun e w'' hh => ?_
  obtain ⟨v, rfl, hk⟩ := hh
  subst hd
  exact hK _ _ hk
end
/-! A row of bytes that is marked behind its end ('[]byte(s)'), and written in place. -/
theorem addr_of_cell {w : World} {a : Addr} {v : Value} (h : w.cell? a = some v) : a = ⟨a.block, a.off, none⟩ := by
  obtain ⟨b, o, sp⟩ := a
  cases sp with
  | none => rfl
  | some x =>
    exfalso
    unfold World.cell? at h
    split at h <;> simp at h
/-- Block g holds the bytes l, and is marked behind them. -/
structure MarkedBytes (W : World) (g : Nat) (e : TypeId) (l : List UInt8) : Prop where
  blk : ∃ cs : Array Value, ∃ m : Nat, W.heap[g]? = some (.cells cs e (m, m + 1)) ∧ l.length ≤ m ∧ ∀ j (hj : j < l.length), cs[j]? = some (.int .u8 (l[j].toNat : Int))
namespace MarkedBytes
variable {W : World} {g : Nat} {e : TypeId} {l : List UInt8}
theorem of_conv (W : World) (e : TypeId) (s : ByteArray) : MarkedBytes (Lib.bytesWorld W e s) W.heap.size e s.data.toList := by
  refine ⟨⟨_, _, Lib.bytesWorld_at_new W e s, ?_, fun j hj => ?_⟩⟩
  · unfold Lib.bytesCells
    simp
  · unfold Lib.bytesCells
    have hj' : j < s.data.size := by simpa using hj
    rw [Array.getElem?_append_left (by simpa using hj'), Array.getElem?_map, Array.getElem?_eq_getElem hj']
    simp
theorem cell (h : MarkedBytes W g e l) {j : Nat} (hj : j < l.length) : W.cell? ⟨g, j, none⟩ = some (.int .u8 (l[j].toNat : Int)) := by
  obtain ⟨cs, m, hb, _, hc⟩ := h.blk
  rw [Go.Joins.cell_of_block hb]
  exact hc j hj
theorem unfrozen (h : MarkedBytes W g e l) {j : Nat} (hj : j < l.length) : W.frozen? ⟨g, j, none⟩ = false := by
  obtain ⟨cs, m, hb, hm, _⟩ := h.blk
  simp [World.frozen?, hb]
  omega
theorem set (h : MarkedBytes W g e l) {j : Nat} (hj : j < l.length) (c : UInt8) : MarkedBytes (W.setCell ⟨g, j, none⟩ (.int .u8 (c.toNat : Int))) g e (l.set j c) := by
  obtain ⟨cs, m, hb, hm, hc⟩ := h.blk
  refine ⟨⟨_, m, Go.Joins.block_setCell hb _, by simpa using hm, fun q hq => ?_⟩⟩
  have hq' : q < l.length := by simpa using hq
  have hsz : ∀ q, q < l.length → q < cs.size := fun q hq => (Array.getElem?_eq_some_iff.1 (hc q hq)).1
  rw [Array.getElem?_setIfInBounds]
  by_cases e1 : j = q
  · subst e1
    rw [if_pos rfl, if_pos (hsz j hj), List.getElem_set_self]
  · rw [if_neg e1, List.getElem_set_ne e1]
    exact hc q hq'
theorem below {W' : World} (h : MarkedBytes W g e l) (hb : Below W.heap.size W W') : MarkedBytes W' g e l := by
  obtain ⟨cs, m, h1, h2, h3⟩ := h.blk
  have hlt : g < W.heap.size := (Array.getElem?_eq_some_iff.1 h1).1
  exact ⟨⟨cs, m, (hb.block g hlt).trans h1, h2, h3⟩⟩
theorem conv_back {P : Program} {src e' dst : TypeId} (hs : P.underlying src = some (.slice e')) (he : P.underlying e' = some (.int .u8)) (hd : P.underlying dst = some .string) (h : MarkedBytes W g e l) (cap : Nat) :
    (convert src dst (.slice (some ⟨g, 0, none⟩) l.length cap)).run P W = .ok (.string ⟨l.toArray⟩) W := by
  have h1 := run_convert_bytes_arg (P := P) W src e' hs he g 0 l.length cap (l.map fun c => (c.toNat : Int)) (by simp) (fun i hi => by
    rw [Nat.zero_add, h.cell hi]
    simp [List.getD, hi]) dst hd
  have h2 : strOfNums (l.map fun c => (c.toNat : Int)) = ⟨l.toArray⟩ := by
    unfold strOfNums
    rw [List.map_map]
    congr 2
    conv => rhs; rw [← List.map_id l]
    apply List.map_congr_left
    intro c _
    simp
  rw [h2] at h1
  exact h1
end MarkedBytes
namespace Kd
theorem C_ints_block {W : World} {g e : Nat} {fr : Nat × Nat} {k : IntKind} {xs : List Int} {cs : Array Value} (h : W.heap[g]? = some (.cells cs e fr)) (hcs : cs.toList.take xs.length = xs.map (Value.int k)) (hn : xs.length ≤ 9223372036854775807) : Kd.C (Kd.int k) W (some ⟨g, 0, none⟩) xs.length xs := by
  refine ⟨rfl, hn, fun _ => ⟨_, rfl, fun j p hj => ⟨[Value.int k p], rfl, rfl, fun i u hu => ?_⟩⟩⟩
  have hi : i = 0 := by
    rcases i with _ | i
    · rfl
    · simp at hu
  subst hi
  obtain rfl : Value.int k p = u := by simpa using hu
  have hj' : j < xs.length := (List.getElem?_eq_some_iff.1 hj).1
  have h1 : (cs.toList.take xs.length)[j]? = some (Value.int k p) := by rw [hcs, List.getElem?_map, hj]; rfl
  rw [List.getElem?_take, if_pos hj'] at h1
  have e1 : ((⟨g, 0, none⟩ : Addr).add (j * (Kd.int k).sz + 0)) = ⟨g, j, none⟩ := by
    show (⟨g, 0, none⟩ : Addr).add (j * 1 + 0) = _
    rw [addr_add_zero, Nat.mul_one, Nat.add_zero]
  rw [e1, Go.Joins.cell_of_block h]
  simpa using h1
theorem C_strings_cells {W : World} {A : Option Addr} {xs : List ByteArray} (h : Kd.C Kd.string W A xs.length xs) (hn : 0 < xs.length) : ∃ ad, A = some ad ∧ ∀ (j : Nat) x, xs[j]? = some x → W.cell? (ad.add j) = some (.string x) := by
  obtain ⟨ad, rfl, hc⟩ := h.2.2 hn
  refine ⟨ad, rfl, fun j x hj => ?_⟩
  obtain ⟨c, hl, hK, hcc⟩ := hc j x hj
  have hK' : c = [Value.string x] := hK
  have := hcc 0 (.string x) (by rw [hK']; rfl)
  rwa [show j * Kd.string.sz + 0 = j from by show j * 1 + 0 = j; omega] at this
theorem C_slices_block {α : Type} {d : Kd α} {t : Nat} {W : World} {g e : Nat} {fr : Nat × Nat} {xs : List (List α)} {cs : Array Value} (h : W.heap[g]? = some (.cells cs e fr))
    (hcs : ∀ (j : Nat) (p : List α), xs[j]? = some p → ∃ A c, cs[j]? = some (Value.slice A p.length c) ∧ p.length ≤ c ∧ d.C W A p.length p) (hn : xs.length ≤ 9223372036854775807) : Kd.C (Kd.slice t d) W (some ⟨g, 0, none⟩) xs.length xs := by
  refine ⟨rfl, hn, fun _ => ⟨_, rfl, fun j p hj => ?_⟩⟩
  obtain ⟨A, c, hc, hl, hC⟩ := hcs j p hj
  refine ⟨[Value.slice A p.length c], rfl, ⟨A, c, rfl, hl, hC⟩, fun i u hu => ?_⟩
  have hi : i = 0 := by
    rcases i with _ | i
    · rfl
    · simp at hu
  subst hi
  obtain rfl : Value.slice A p.length c = u := by simpa using hu
  have e1 : ((⟨g, 0, none⟩ : Addr).add (j * (Kd.slice t d).sz + 0)) = ⟨g, j, none⟩ := by
    show (⟨g, 0, none⟩ : Addr).add (j * 1 + 0) = _
    rw [addr_add_zero, Nat.mul_one, Nat.add_zero]
  rw [e1, Go.Joins.cell_of_block h]
  exact hc
/-- A shared row with an element lies in none of the blocks that its 'ok' leaves out. -/
theorem V_block_ne {α : Type} [Inhabited α] {d : Kd α} {e base n c g : Nat} {ok : Nat → Prop} {W : World} {ad : Addr} {xs : List α} (h : V d e W base ok (.slice (some ad) n c) xs) (hs : 0 < d.sz) (hok : ∀ k, ok k → k ≠ g) {i : Int} (h0 : 0 ≤ i) (h1 : i < n) : ad.block ≠ g := by
  obtain ⟨_, _, hF⟩ := V_at h
  have hn : n = xs.length := (V_at h).1
  obtain ⟨ad', cc, he, _, _, _, hb⟩ := F_get hF default i h0 (by omega)
  injection he with he
  subst he
  exact hok _ (hb hs)
/-- The bytes of a text as a new row, marked: it is told as one that is only read. -/
theorem C_bytesWorld (W : World) (e : TypeId) (s : ByteArray) (hs : s.size ≤ 9223372036854775807) : Kd.C (Kd.int .u8) (Lib.bytesWorld W e s) (some ⟨W.heap.size, 0, none⟩) s.size (bytesOf s) := by
  have hl : (bytesOf s).length = s.size := bytesOf_length s
  rw [← hl]
  refine C_ints_block (e := e) (Lib.bytesWorld_at_new W e s) ?_ (by omega)
  unfold Lib.bytesCells bytesOf
  simp [List.take_left']
theorem V_conv_fact (W : World) (base : Nat) (e : TypeId) (s : ByteArray) (hs : s.size ≤ 9223372036854775807) (c : Nat) (hc : s.size ≤ c) :
    Kd.V (Kd.int .u8) e (Lib.bytesWorld W e s) base (fun k => W.heap.size ≤ k) (.slice (some ⟨W.heap.size, 0, none⟩) s.size c) (bytesOf s) := by
  have hl : (bytesOf s).length = s.size := bytesOf_length s
  rw [← hl] at hc ⊢
  refine V_mk hc (fun W' hW => ?_)
  rw [hl]
  have h0 := hW W.heap.size (Nat.le_refl _) (by rw [Lib.bytesWorld_size]; omega)
  rw [Lib.bytesWorld_at_new] at h0
  have h1 := C_ints_block (k := .u8) (xs := bytesOf s) h0 (by unfold Lib.bytesCells bytesOf; simp [List.take_left']) (by omega)
  rwa [hl] at h1
section
variable {P : Program} {ops : Array Oper} {rest : List Oper} {o : Oper} {a : Act} {Q : Exit → Act → World → Prop} {Kc : Act → World → Prop}
theorem below_bytesWorld {w0 W : World} {base : Nat} {e : TypeId} {s : ByteArray} (HB : Below base w0 W) (hbase : base ≤ W.heap.size) : Below base w0 (Lib.bytesWorld W e s) :=
  HB.trans ⟨rfl, rfl, rfl, by rw [Lib.bytesWorld_size]; omega, fun k hk => Lib.bytesWorld_at_old W e s k (Nat.lt_of_lt_of_le hk hbase)⟩
theorem V_conv {w0 W : World} (base e : Nat) (hgd : o.guard = none) {N' : Tmp} (_hd : o.dst = some N') (src dst : TypeId) (x : Operand) (ho : o.op = .convert src dst x) (s : ByteArray) (hx : a.eval x = .string s) (hsz : s.size ≤ 9223372036854775807)
    (hs : P.underlying src = some .string) (hd : P.underlying dst = some (.slice e)) (he : P.underlying e = some (.int .u8)) (HB : Below base w0 W) (hbase : base ≤ W.heap.size)
    (h : ∀ v1 w1, Kd.V (Kd.int .u8) e w1 base (fun k => W.heap.size ≤ k) v1 (bytesOf s) → Below base w0 w1 → W.grownBy w1 none → (∃ b, v1.ownBlock = some b ∧ W.heap.size ≤ b) → wpList P ops Q rest (a.put o.dst v1) w1) : wpList P ops Q (o :: rest) a W := by
  have hrun := Lib.run_convert_string_bytes (P := P) W src dst e s hs hd he
  refine event_run hgd (v := .slice (some ⟨W.heap.size, 0, none⟩) s.size (grownCap W s.size 0 e)) (w1 := Lib.bytesWorld W e s) ?_ (h _ _ (V_conv_fact W base e s hsz _ ?_) (below_bytesWorld HB hbase) ?_ ⟨W.heap.size, by simp [Value.ownBlock], Nat.le_refl _⟩)
  · simp [execOp, ho, hx, hrun]
  · exact grownCap_ge W s.size 0 e
  · exact ⟨rfl, rfl, rfl, by rw [Lib.bytesWorld_size]; omega, fun k hk _ => Lib.bytesWorld_at_old W e s k hk⟩
theorem V_conv_step {w0 W : World} (base e : Nat) (hw : Region.wanted o (yielded ops a.tmps) = true) {N' : Tmp} (_hd : o.dst = some N') (src dst : TypeId) (x : Operand) (ho : o.op = .convert src dst x) (s : ByteArray) (hx : a.eval x = .string s) (hsz : s.size ≤ 9223372036854775807)
    (hs : P.underlying src = some .string) (hd : P.underlying dst = some (.slice e)) (he : P.underlying e = some (.int .u8)) (HB : Below base w0 W) (hbase : base ≤ W.heap.size)
    (h : ∀ v1 w1, Kd.V (Kd.int .u8) e w1 base (fun k => W.heap.size ≤ k) v1 (bytesOf s) → Below base w0 w1 → W.grownBy w1 none → (∃ b, v1.ownBlock = some b ∧ W.heap.size ≤ b) → Kc (a.put o.dst v1) w1) : if Region.wanted o (yielded ops a.tmps) = true then Oper.wp P o a W Kc Q else Kc (a.put o.dst undef) W := by
  have hrun := Lib.run_convert_string_bytes (P := P) W src dst e s hs hd he
  refine event_step hw (v := .slice (some ⟨W.heap.size, 0, none⟩) s.size (grownCap W s.size 0 e)) (w1 := Lib.bytesWorld W e s) ?_ (h _ _ (V_conv_fact W base e s hsz _ ?_) (below_bytesWorld HB hbase) ?_ ⟨W.heap.size, by simp [Value.ownBlock], Nat.le_refl _⟩)
  · simp [execOp, ho, hx, hrun]
  · exact grownCap_ge W s.size 0 e
  · exact ⟨rfl, rfl, rfl, by rw [Lib.bytesWorld_size]; omega, fun k hk _ => Lib.bytesWorld_at_old W e s k hk⟩
end
end Kd
end Go.Proofs.YtljlkpfiebcoeaaGreatDoorW.PrintWords
