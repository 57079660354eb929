/- A plan's functions, walked: what a plan is, the small ones, Done. No condition but those typed. -/
import Derived.Test.YtomkjakffpomdaaWalk0
import Derived.Test.YtomkjakffpomdaaBlocks
import Derived.Maps.RangeWalk
import Derived.Sort.OwnSorted
namespace Go.Proofs.Ytomkjakffpomdaa.Q
open Go.RowKit Go.Maps Go.Sort Go.Shelf Go.Proofs.YtomkjakffpomdaaW.PrintWords Go.Proofs.YtomkjakffpomdaaW.PrintLast Go.Proofs.YtomkjakffpomdaaW.PrintMore
attribute [local go_sem] max2_int min2_int max_two min_two max_three min_three max_four min_four   -- for this text's walks alone
set_option linter.unusedVariables false
set_option linter.unusedSimpArgs false
set_option maxRecDepth 100000
/-- What a feed is. -/
structure Fd where
  due : Int
  fails : Int
  out : Int
abbrev fdC (x : Fd) : Array Value := #[.int .i64 x.due, .int .i64 x.fails, .int .i64 x.out]
abbrev PF := ByteArray → Option Fd
def kl (k : ByteArray) : Lit := .string k.data.toList
theorem kl_inj {a b : ByteArray} (h : kl a = kl b) : a = b := by
  cases a; cases b
  simp only [kl, Lit.string.injEq] at h
  exact congrArg ByteArray.mk (Array.toList_inj.1 h)
theorem kl_ne {a b : ByteArray} (h : a ≠ b) : kl a ≠ kl b := fun e => h (kl_inj e)
theorem kl_key (k : ByteArray) : WideAt.IsKeyLit (kl k) := by simp [kl, WideAt.IsKeyLit]
/-- Each element is read as itself. -/
def RV (v : Value) : Option (DataW Value × List MemPlace) := some (.held v, [])
theorem key9 : Keyed Try.prog 9 := string_keyed Try.underlying9
theorem keyOf9 {s : ByteArray} (h : s.size ≤ maxLen) : keyOf Try.prog 9 (.string s) = some (kl s) := Go.WideMaps.keyOf_string_mk Try.underlying9 h
theorem zero55 (w : World) : (zeroValue 55).run Try.prog w = .ok (.pointer none) w := by kernel_rfl
/-! ### Which blocks hold plans -/
def keyed : Obj → Prop
  | .cells _ t _ => t = 49 ∨ t = 57
  | .map _ _ => True
  | _ => False
/-- What holds plans has not turned. -/
structure Np (w w' : World) : Prop where
  size : w.heap.size ≤ w'.heap.size
  block : ∀ (i : Nat) (o : Obj), w.heap[i]? = some o → keyed o → w'.heap[i]? = some o
theorem Np.refl (w : World) : Np w w := ⟨Nat.le_refl _, fun _ _ h _ => h⟩
theorem Np.trans {a b c : World} (h : Np a b) (k : Np b c) : Np a c := ⟨Nat.le_trans h.size k.size, fun i o ho hk => k.block i o (h.block i o ho hk) hk⟩
theorem Np.of_below {w w' : World} (h : Below w.heap.size w w') : Np w w' := ⟨h.size, fun i o ho _ => by
  rw [h.block i (Array.getElem?_eq_some_iff.1 ho).1]
  exact ho⟩
theorem Np.setCell {w : World} {a : Addr} {v : Value} (h : ∀ o, w.heap[a.block]? = some o → ¬ keyed o) : Np w (w.setCell a v) := ⟨by simp [World.setCell], fun i o ho hk => by
  rw [Below.heap_setCell _ _ _ _ (fun e => h o (e ▸ ho) hk)]
  exact ho⟩
theorem Np.drew (w : World) : Np w w.drew := ⟨Nat.le_refl _, fun _ _ h _ => h⟩
/-- Nothing has turned but plans that lie from B on. -/
structure Kp (B : Nat) (w w' : World) : Prop where
  os : w'.os = w.os
  tape : w'.tape = w.tape
  output : w'.output = w.output
  size : w.heap.size ≤ w'.heap.size
  low : ∀ i, i < w.heap.size → i < B → w'.heap[i]? = w.heap[i]?
  block : ∀ (i : Nat) (o : Obj), w.heap[i]? = some o → ¬ keyed o → w'.heap[i]? = some o
theorem Kp.refl (B : Nat) (w : World) : Kp B w w := ⟨rfl, rfl, rfl, Nat.le_refl _, fun _ _ _ => rfl, fun _ _ h _ => h⟩
theorem Kp.trans {B : Nat} {a b c : World} (h : Kp B a b) (k : Kp B b c) : Kp B a c :=
  ⟨k.os.trans h.os, k.tape.trans h.tape, k.output.trans h.output, Nat.le_trans h.size k.size, fun i hi hB => (k.low i (Nat.lt_of_lt_of_le hi h.size) hB).trans (h.low i hi hB), fun i o ho hk => k.block i o (h.block i o ho hk) hk⟩
theorem Kp.of_below {B : Nat} {w w' : World} (h : Below w.heap.size w w') : Kp B w w' :=
  ⟨h.os, h.tape, h.output, h.size, fun i hi _ => h.block i hi, fun i o ho _ => (h.block i (Array.getElem?_eq_some_iff.1 ho).1).trans ho⟩
theorem Kp.below {B : Nat} {w w' : World} (h : Kp B w w') (hB : B ≤ w.heap.size) : Below B w w' := ⟨h.os, h.tape, h.output, h.size, fun i hi => h.low i (Nat.lt_of_lt_of_le hi hB) hi⟩
theorem Kp.base {B : Nat} {w0 w w' : World} (h : Kp B w w') (hb : Below B w0 w) (hB : B ≤ w.heap.size) : Below B w0 w' := hb.trans (h.below hB)
theorem Kp.setCell {B : Nat} {w : World} {a : Addr} {v : Value} (hB : B ≤ a.block) (h : ∃ o, w.heap[a.block]? = some o ∧ keyed o) : Kp B w (w.setCell a v) :=
  ⟨rfl, rfl, rfl, by simp [World.setCell], fun i _ hi => Below.heap_setCell _ _ _ _ (by omega), fun i o ho hk => by
    rw [Below.heap_setCell _ _ _ _ (fun e => by
      obtain ⟨o', h1, h2⟩ := h
      rw [← e, ho] at h1
      cases h1
      exact hk h2)]
    exact ho⟩
theorem Kp.turned {B m : Nat} {w w' : World} (h : w.mapTurned w' m) (hB : B ≤ m) : Kp B w w' := by
  have hg := h.grown
  obtain ⟨es, cl, es', cl', hb, _⟩ := h
  exact ⟨hg.os, hg.tape, hg.output, hg.size, fun i hi hiB => hg.block i hi (fun e => by cases e; omega), fun i o ho hk => by
    rw [hg.block i (Array.getElem?_eq_some_iff.1 ho).1 (fun e => by
      cases e
      rw [hb] at ho
      cases ho
      exact hk trivial)]
    exact ho⟩
theorem keyed_at {b : Nat} {cs : Array Value} {t : TypeId} {w : World} (h : Blk.At b cs t w) (ht : t = 49 ∨ t = 57) : ∃ o, w.heap[b]? = some o ∧ keyed o := ⟨_, h, ht⟩
theorem At.np {b : Nat} {cs : Array Value} {t : TypeId} {w w' : World} (h : Blk.At b cs t w) (ht : t = 49 ∨ t = 57) (hn : Np w w') : Blk.At b cs t w' := hn.block b _ h ht
theorem At.kp {B b : Nat} {cs : Array Value} {t : TypeId} {w w' : World} (h : Blk.At b cs t w) (ht : t ≠ 49) (ht' : t ≠ 57) (hn : Kp B w w') : Blk.At b cs t w' := hn.block b _ h (fun e => by rcases e with e | e; exact ht e; exact ht' e)
/-! ### A plan -/
structure Pl (B N p m : Nat) (b : ByteArray → Nat) (D : DataW Value) (t : Int) (f : PF) (w : World) : Prop where
  own : w.ownsMap Try.prog 9 RV m N D
  has : ∀ k, Maps.has D (kl k) = (f k).isSome
  at_ : ∀ k x, f k = some x → ∀ z, D.atKey (kl k) z = .held (.pointer (some ⟨b k, 0, none⟩))
  blk : ∀ k x, f k = some x → Blk.At (b k) (fdC x) 57 w
  inj : ∀ k k' x x', f k = some x → f k' = some x' → b k = b k' → k = k'
  bB : ∀ k x, f k = some x → B ≤ b k
  pB : B ≤ p
  mB : B ≤ m
  pl : Blk.At p #[.int .i64 t, .map (some m)] 49 w
/-- A plan that New made. -/
def PA (B N p m : Nat) (t : Int) (f : PF) (w : World) : Prop := ∃ b D, Pl B N p m b D t f w
section
variable {B N p m : Nat} {b : ByteArray → Nat} {D : DataW Value} {t : Int} {f : PF} {w w' : World}
theorem own_np {R : Value → Option (DataW Value × List MemPlace)} {k m n : Nat} {D : DataW Value} (h : w.ownsMap Try.prog k R m n D) (hn : Np w w') : w'.ownsMap Try.prog k R m n D := by
  obtain ⟨es, cl, hb, r⟩ := h
  exact ⟨es, cl, hn.block _ _ hb trivial, r⟩
theorem Pl.np (h : Pl B N p m b D t f w) (hn : Np w w') : Pl B N p m b D t f w' :=
  ⟨own_np h.own hn, h.has, h.at_, fun k x hx => At.np (h.blk k x hx) (.inr rfl) hn, h.inj, h.bB, h.pB, h.mB, At.np h.pl (.inl rfl) hn⟩
theorem PA.np (h : PA B N p m t f w) (hn : Np w w') : PA B N p m t f w' := by
  obtain ⟨b, D, h⟩ := h
  exact ⟨b, D, h.np hn⟩
theorem PA.below (h : PA B N p m t f w) (hb : Below w.heap.size w w') : PA B N p m t f w' := h.np (.of_below hb)
theorem PA.mono {N' : Nat} (h : PA B N p m t f w) (hn : N ≤ N') : PA B N' p m t f w := by
  obtain ⟨b, D, h⟩ := h
  exact ⟨b, D, { h with own := h.own.mono hn }⟩
theorem Pl.look (h : Pl B N p m b D t f w) {s : ByteArray} (hs : s.size ≤ maxLen) :
    (Instr.lookup 47 (.map (some m)) (.string s) false).run Try.prog w = .ok (match f s with | none => .pointer none | some _ => .pointer (some ⟨b s, 0, none⟩)) w := by
  obtain ⟨v, ps, hr, hv⟩ := h.own.lookup key9 Try.underlying47 (zero55 w) (zd := .held (.pointer none)) (zp := []) rfl (keyOf9 hs)
  rw [hr]
  have hv' : DataW.held v = D.atKey (kl s) (.held (.pointer none)) := by
    have := Option.some.inj hv
    exact congrArg Prod.fst this
  cases hf : f s with
  | none =>
    have h0 := Maps.atKey_of_not_has (k := kl s) (D := D) (by rw [h.has s, hf]; rfl) (.held (.pointer none))
    rw [h0] at hv'
    cases hv'
    rfl
  | some x =>
    rw [h.at_ s x hf] at hv'
    cases hv'
    rfl
theorem Pl.look0 (h : Pl B N p m b D t f w) {s : ByteArray} (hs : s.size ≤ maxLen) (hf : f s = none) : (Instr.lookup 47 (.map (some m)) (.string s) false).run Try.prog w = .ok (.pointer none) w := by
  have := h.look hs
  rwa [hf] at this
theorem Pl.look1 (h : Pl B N p m b D t f w) {s : ByteArray} (hs : s.size ≤ maxLen) {x : Fd} (hf : f s = some x) : (Instr.lookup 47 (.map (some m)) (.string s) false).run Try.prog w = .ok (.pointer (some ⟨b s, 0, none⟩)) w := by
  have := h.look hs
  rwa [hf] at this
/-- A feed's cells turn. -/
def upd (f : PF) (s : ByteArray) (x : Option Fd) : PF := fun k => if k = s then x else f k
theorem upd_same (f : PF) (s : ByteArray) (x : Option Fd) : upd f s x s = x := by simp [upd]
theorem upd_other (f : PF) {s k : ByteArray} (h : k ≠ s) (x : Option Fd) : upd f s x k = f k := by simp [upd, h]
theorem At.kept {g : Nat} {cs : Array Value} {ty : TypeId} (h : Blk.At g cs ty w) {q : Nat} (hq : w'.heap[g]? = w.heap[g]?) : Blk.At g cs ty w' := hq.trans h
/-- Feed s is now x: nothing else has turned. -/
theorem Pl.feed (h : Pl B N p m b D t f w) {s : ByteArray} {x0 x : Fd} (hf : f s = some x0) (hx : Blk.At (b s) (fdC x) 57 w') (ho : ∀ i, i ≠ b s → i < w.heap.size → w'.heap[i]? = w.heap[i]?) : Pl B N p m b D t (upd f s (some x)) w' := by
  have hs0 := h.blk s x0 hf
  have hne : ∀ (i : Nat) (o : Obj), w.heap[i]? = some o → (∀ cs, o ≠ .cells cs 57) → w'.heap[i]? = some o := fun i o hi hc => by
    rw [ho i (fun e => by
      subst e
      rw [show w.heap[b s]? = _ from hs0] at hi
      cases hi
      exact hc _ rfl) (Array.getElem?_eq_some_iff.1 hi).1]
    exact hi
  refine ⟨?_, fun k => ?_, fun k y hk z => ?_, fun k y hk => ?_, fun k k' y y' hk hk' e => ?_, fun k y hk => ?_, h.pB, h.mB, hne _ _ h.pl (fun cs e => by cases e)⟩
  · obtain ⟨es, cl, hb, r⟩ := h.own
    exact ⟨es, cl, hne _ _ hb (fun cs e => by cases e), r⟩
  · rw [h.has k]
    by_cases e : k = s
    · subst e; rw [upd_same, hf]; rfl
    · rw [upd_other f e]
  · by_cases e : k = s
    · subst e; exact h.at_ _ _ hf z
    · rw [upd_other f e] at hk; exact h.at_ k y hk z
  · by_cases e : k = s
    · subst e; rw [upd_same] at hk; cases hk; exact hx
    · rw [upd_other f e] at hk
      have h1 := h.blk k y hk
      exact (ho _ (fun e2 => e (h.inj k s y x0 hk hf e2)) h1.lt).trans h1
  · have g : ∀ k y, upd f s (some x) k = some y → ∃ y', f k = some y' := fun k y hk => by
      by_cases e : k = s
      · subst e; exact ⟨_, hf⟩
      · rw [upd_other f e] at hk; exact ⟨_, hk⟩
    obtain ⟨_, h1⟩ := g k y hk
    obtain ⟨_, h2⟩ := g k' y' hk'
    exact h.inj k k' _ _ h1 h2 e
  · by_cases e : k = s
    · subst e; exact h.bB _ _ hf
    · rw [upd_other f e] at hk; exact h.bB k y hk
/-- The plan's time is now t'. -/
theorem Pl.time (h : Pl B N p m b D t f w) {t' : Int} (hp : Blk.At p #[.int .i64 t', .map (some m)] 49 w') (ho : ∀ i, i ≠ p → i < w.heap.size → w'.heap[i]? = w.heap[i]?) : Pl B N p m b D t' f w' := by
  have hne : ∀ (i : Nat) (o : Obj), w.heap[i]? = some o → (∀ cs, o ≠ .cells cs 49) → w'.heap[i]? = some o := fun i o hi hc => by
    rw [ho i (fun e => by
      subst e
      rw [show w.heap[i]? = _ from h.pl] at hi
      cases hi
      exact hc _ rfl) (Array.getElem?_eq_some_iff.1 hi).1]
    exact hi
  refine ⟨?_, h.has, h.at_, fun k x hx => hne _ _ (h.blk k x hx) (fun cs e => by cases e), h.inj, h.bB, h.pB, h.mB, hp⟩
  obtain ⟨es, cl, hb, r⟩ := h.own
  exact ⟨es, cl, hne _ _ hb (fun cs e => by cases e), r⟩
/-- A feed that is new. -/
theorem Pl.put (h : Pl B N p m b D t f w) {s : ByteArray} {x : Fd} {g : Nat} (hf : f s = none) (hg : B ≤ g) (hgn : ∀ k y, f k = some y → b k ≠ g) (hx : Blk.At g (fdC x) 57 w') (ho : w'.ownsMap Try.prog 9 RV m (N + 1) (D.put (kl s) (.held (.pointer (some ⟨g, 0, none⟩)))))
    (hk : ∀ (i : Nat) (o : Obj), w.heap[i]? = some o → i ≠ m → keyed o → w'.heap[i]? = some o) : Pl B (N + 1) p m (fun k => if k = s then g else b k) (D.put (kl s) (.held (.pointer (some ⟨g, 0, none⟩)))) t (upd f s (some x)) w' := by
  have hm : ∀ k x, f k = some x → b k ≠ m := fun k x hk e => by
    have h1 := h.blk k x hk
    obtain ⟨es, cl, hb, _⟩ := h.own
    unfold Blk.At at h1
    rw [e, hb] at h1
    cases h1
  have hpm : p ≠ m := fun e => by
    have h1 := h.pl
    obtain ⟨es, cl, hb, _⟩ := h.own
    unfold Blk.At at h1
    rw [e, hb] at h1
    cases h1
  refine ⟨ho, fun k => ?_, fun k y hk z => ?_, fun k y hk' => ?_, fun k k' y y' hk hk' e => ?_, fun k y hk => ?_, h.pB, h.mB, hk _ _ h.pl hpm (.inl rfl)⟩
  · by_cases e : k = s
    · subst e; rw [upd_same, Maps.has_put_same h.own.isMap (kl_key _)]; rfl
    · rw [upd_other f e, Maps.has_put_other (kl_ne e), h.has k]
  · by_cases e : k = s
    · subst e; rw [Maps.atKey_put_same h.own.isMap (kl_key _)]; simp
    · rw [upd_other f e] at hk
      rw [Maps.atKey_put_other (kl_ne e), h.at_ k y hk z]
      simp [e]
  · by_cases e : k = s
    · subst e; rw [upd_same] at hk'; cases hk'; simpa using hx
    · rw [upd_other f e] at hk'
      simp only [e, if_false]
      have h1 := h.blk k y hk'
      exact hk _ _ h1 (hm k y hk') (.inr rfl)
  · by_cases e1 : k = s
    · by_cases e2 : k' = s
      · rw [e1, e2]
      · rw [upd_other f e2] at hk'
        simp only [e1, e2, if_true, if_false] at e
        exact absurd e.symm (hgn _ _ hk')
    · by_cases e2 : k' = s
      · rw [upd_other f e1] at hk
        simp only [e1, e2, if_true, if_false] at e
        exact absurd e (hgn _ _ hk)
      · rw [upd_other f e1] at hk
        rw [upd_other f e2] at hk'
        simp only [e1, e2, if_false] at e
        exact h.inj k k' _ _ hk hk' e
  · by_cases e : k = s
    · simp [e, hg]
    · rw [upd_other f e] at hk
      simp only [e, if_false]
      exact h.bB k y hk
/-- A feed that goes. -/
theorem Pl.del (h : Pl B N p m b D t f w) {s : ByteArray} (ho : w'.ownsMap Try.prog 9 RV m N (D.del (kl s))) (hk : ∀ (i : Nat) (o : Obj), w.heap[i]? = some o → i ≠ m → keyed o → w'.heap[i]? = some o) : Pl B N p m b (D.del (kl s)) t (upd f s none) w' := by
  have hm : ∀ k x, f k = some x → b k ≠ m := fun k x hk e => by
    have h1 := h.blk k x hk
    obtain ⟨es, cl, hb, _⟩ := h.own
    unfold Blk.At at h1
    rw [e, hb] at h1
    cases h1
  have hpm : p ≠ m := fun e => by
    have h1 := h.pl
    obtain ⟨es, cl, hb, _⟩ := h.own
    unfold Blk.At at h1
    rw [e, hb] at h1
    cases h1
  have g : ∀ k y, upd f s none k = some y → k ≠ s ∧ f k = some y := fun k y hk => by
    by_cases e : k = s
    · subst e; rw [upd_same] at hk; cases hk
    · rw [upd_other f e] at hk; exact ⟨e, hk⟩
  refine ⟨ho, fun k => ?_, fun k y hk z => ?_, fun k y hk' => ?_, fun k k' y y' hk hk' e => ?_, fun k y hk => ?_, h.pB, h.mB, hk _ _ h.pl hpm (.inl rfl)⟩
  · by_cases e : k = s
    · subst e; rw [upd_same, Maps.has_del_same]; rfl
    · rw [upd_other f e, Maps.has_del_other (kl_ne e), h.has k]
  · obtain ⟨e, hk⟩ := g k y hk
    rw [Maps.atKey_del_other (kl_ne e), h.at_ k y hk z]
  · obtain ⟨e, hk'⟩ := g k y hk'
    exact hk _ _ (h.blk k y hk') (hm k y hk') (.inr rfl)
  · exact h.inj k k' _ _ (g _ _ hk).2 (g _ _ hk').2 e
  · exact h.bB k y (g _ _ hk).2
end
/-! ### What nobody made -/
def Dead (v : Value) (w : World) : Prop := v = .pointer none ∨ ∃ p, v = .pointer (some ⟨p, 0, none⟩) ∧ Blk.At p #[.int .i64 0, .map none] 49 w
theorem Dead.below {v : Value} {w w' : World} (h : Dead v w) (hb : Below w.heap.size w w') : Dead v w' := by
  rcases h with h | ⟨p, hv, hA⟩
  · exact .inl h
  · exact .inr ⟨p, hv, hA.below hb hA.lt⟩
theorem neq47 (W : World) (m : Option Nat) : (binOp .neq 47 (.map m) (.map none)).run Try.prog W = .ok (.bool (!m.isNone)) W := by
  simp only [binOp]
  simp [run_equal_map_nil W 47 9 55 m Try.underlying47]
attribute [local go_sem] neq47
theorem p_ok.dead {v : Value} {w : World} (h : Dead v w) : Calls Try.prog 22 #[v] w fun e w' => e = .returned (.bool false) ∧ w' = w := by
  rcases h with rfl | ⟨p, rfl, hA⟩
  · go_enter Try.func22, Try.ntmps22
    go_wp2_with fail
    go_ret
    exact ⟨rfl, rfl⟩
  · have x1 : w.cell? ⟨p, 1, none⟩ = some (.map none) := hA.cell 1
    clear hA
    go_enter Try.func22, Try.ntmps22
    go_wp2_with fail
    go_ret
    exact ⟨rfl, rfl⟩
theorem p_ok.calls {B N p m : Nat} {t : Int} {f : PF} {w : World} (h : PA B N p m t f w) : Calls Try.prog 22 #[.pointer (some ⟨p, 0, none⟩)] w fun e w' => e = .returned (.bool true) ∧ w' = w := by
  obtain ⟨b, D, h⟩ := h
  have x1 : w.cell? ⟨p, 1, none⟩ = some (.map (some m)) := h.pl.cell 1
  clear h
  go_enter Try.func22, Try.ntmps22
  go_wp2_with fail
  go_ret
  exact ⟨rfl, rfl⟩
/-- Time goes on. -/
def ltr (t now : Int) : Int := if now ≤ 1099511627776 then (if t < now then now else t) else t
theorem p_later.calls {B N p m : Nat} {t : Int} {f : PF} {w : World} (h : PA B N p m t f w) (now : Int) :
    Calls Try.prog 23 #[.pointer (some ⟨p, 0, none⟩), .int .i64 now] w fun e w' => e = .returned (.tuple #[]) ∧ PA B N p m (ltr t now) f w' ∧ Kp B w w' := by
  obtain ⟨b, D, h⟩ := h
  have x0 : w.cell? ⟨p, 0, none⟩ = some (.int .i64 t) := h.pl.cell 0
  have y0 : w.frozen? ⟨p, 0, none⟩ = false := h.pl.frozen 0
  have H := Aside0.mk h
  clear h
  by_cases hc : now ≤ 1099511627776
  · have hd : decide (now ≤ 1099511627776) = true := decide_eq_true hc
    by_cases hx : t < now
    · have HL := Aside0.mk (show ltr t now = now by simp [ltr, hc, hx])
      clear hc
      go_enter Try.func23, Try.ntmps23
      go_wp2_with fail
      go_end0
      exact ⟨rfl, ⟨b, D, H.out.time (by rw [HL.out]; exact H.out.pl.set 0 _) (fun i hi _ => Below.heap_setCell _ _ _ _ hi)⟩, Kp.setCell H.out.pB (keyed_at H.out.pl (.inl rfl))⟩
    · have HL := Aside0.mk (show ltr t now = t by simp [ltr, hc, hx])
      clear hc
      go_enter Try.func23, Try.ntmps23
      go_wp2_with fail
      go_end0
      exact ⟨rfl, ⟨b, D, H.out.time (by rw [HL.out]; exact H.out.pl.set 0 _) (fun i hi _ => Below.heap_setCell _ _ _ _ hi)⟩, Kp.setCell H.out.pB (keyed_at H.out.pl (.inl rfl))⟩
  · have hd : decide (now ≤ 1099511627776) = false := decide_eq_false hc
    have hl : ltr t now = t := by simp [ltr, hc]
    have HL := Aside0.mk hl
    clear hc hl
    go_enter Try.func23, Try.ntmps23
    go_wp2_with fail
    go_end0
    exact ⟨rfl, ⟨b, D, by rw [HL.out]; exact H.out⟩, Kp.refl _ _⟩
theorem p_New.calls (w : World) (N : Nat) : Calls Try.prog 6 #[] w fun e w' => e = .returned (.pointer (some ⟨w.heap.size + 1, 0, none⟩)) ∧ PA w.heap.size N (w.heap.size + 1) w.heap.size 0 (fun _ => none) w' ∧ Below w.heap.size w w' := by
  have hmm := @run_makeMap Try.prog
  go_enter Try.func6, Try.ntmps6
  go_wp2_with fail
  go_ret
  have hs : (w.alloc (.map #[] 0)).heap.size = w.heap.size + 1 := size_alloc _ _
  refine ⟨rfl, ⟨fun _ => 0, .map [], ?_⟩, below_alloc (below_alloc (Below.refl _ _) _) _⟩
  have hp := Blk.At.new (w.alloc (.map #[] 0)) #[.int .i64 0, .map (some w.heap.size)] 49
  rw [hs] at hp
  exact { own := ((World.ownsMap_made w Try.prog 9 RV).alloc _).mono (Nat.zero_le _), has := fun k => rfl, at_ := fun k x hx => (nomatch hx), blk := fun k x hx => (nomatch hx), inj := fun k k' x x' hx => (nomatch hx), bB := fun k x hx => (nomatch hx), pB := Nat.le_succ _, mB := Nat.le_refl _, pl := hp }
theorem p_Now.calls {B N p m : Nat} {t : Int} {f : PF} {w : World} (h : PA B N p m t f w) : Calls Try.prog 15 #[.pointer (some ⟨p, 0, none⟩)] w fun e w' => e = .returned (.int .i64 t) ∧ w' = w := by
  have hk := p_ok.calls h
  obtain ⟨b, D, h⟩ := h
  have x0 : w.cell? ⟨p, 0, none⟩ = some (.int .i64 t) := h.pl.cell 0
  clear h
  go_enter Try.func15, Try.ntmps15
  go_wp2_with fail
  refine hk.mono ?_
  rintro e w1 ⟨rfl, rfl⟩
  go_wp2_with fail
  go_ret
  exact ⟨rfl, rfl⟩
theorem p_Now.dead {v : Value} {w : World} (h : Dead v w) : Calls Try.prog 15 #[v] w fun e w' => e = .returned (.int .i64 0) ∧ w' = w := by
  have hk := p_ok.dead h
  clear h
  go_enter Try.func15, Try.ntmps15
  go_wp2_with fail
  refine hk.mono ?_
  rintro e w1 ⟨rfl, rfl⟩
  go_wp2_with fail
  go_ret
  exact ⟨rfl, rfl⟩
theorem p_find.dead {v : Value} {w : World} (h : Dead v w) (s : ByteArray) : Calls Try.prog 24 #[v, .string s] w fun e w' => e = .returned (.tuple #[.pointer none, .int .i64 2]) ∧ w' = w := by
  have hk := p_ok.dead h
  clear h
  go_enter Try.func24, Try.ntmps24
  go_wp2_with fail
  refine hk.mono ?_
  rintro e w1 ⟨rfl, rfl⟩
  go_wp2_with fail
  go_ret2
  exact ⟨rfl, rfl⟩
theorem p_find0.calls {B N p m : Nat} {t : Int} {f : PF} {w : World} (h : PA B N p m t f w) {s : ByteArray} (hs : s.size ≤ maxLen) (hf : f s = none) :
    Calls Try.prog 24 #[.pointer (some ⟨p, 0, none⟩), .string s] w fun e w' => e = .returned (.tuple #[.pointer none, .int .i64 6]) ∧ w' = w := by
  have hk := p_ok.calls h
  obtain ⟨b, D, h⟩ := h
  have x1 : w.cell? ⟨p, 1, none⟩ = some (.map (some m)) := h.pl.cell 1
  have hl := h.look0 hs hf
  clear h hf
  go_enter Try.func24, Try.ntmps24
  go_wp2_with fail
  refine hk.mono ?_
  rintro e w1 ⟨rfl, rfl⟩
  go_wp2_with fail
  go_ret2
  exact ⟨rfl, rfl⟩
theorem p_find1.calls {B N p m : Nat} {b : ByteArray → Nat} {D : DataW Value} {t : Int} {f : PF} {w : World} (h : Pl B N p m b D t f w) {s : ByteArray} (hs : s.size ≤ maxLen) {x : Fd} (hf : f s = some x) :
    Calls Try.prog 24 #[.pointer (some ⟨p, 0, none⟩), .string s] w fun e w' => e = .returned (.tuple #[.pointer (some ⟨b s, 0, none⟩), .int .i64 0]) ∧ w' = w := by
  have hk := p_ok.calls ⟨b, D, h⟩
  have x1 : w.cell? ⟨p, 1, none⟩ = some (.map (some m)) := h.pl.cell 1
  have hl := h.look1 hs hf
  clear h hf
  go_enter Try.func24, Try.ntmps24
  go_wp2_with fail
  refine hk.mono ?_
  rintro e w1 ⟨rfl, rfl⟩
  go_wp2_with fail
  go_ret2
  exact ⟨rfl, rfl⟩
theorem p_Due.dead {v : Value} {w : World} (h : Dead v w) (s : ByteArray) : Calls Try.prog 9 #[v, .string s] w fun e w' => e = .returned (.tuple #[.int .i64 0, .int .i64 2]) ∧ w' = w := by
  have hk := p_find.dead h s
  clear h
  go_enter Try.func9, Try.ntmps9
  go_wp2_with fail
  refine hk.mono ?_
  rintro e w1 ⟨rfl, rfl⟩
  go_wp2_with fail
  go_ret2
  exact ⟨rfl, rfl⟩
theorem p_Due.calls {B N p m : Nat} {t : Int} {f : PF} {w : World} (h : PA B N p m t f w) {s : ByteArray} (hs : s.size ≤ maxLen) {x : Fd} (hf : f s = some x) :
    Calls Try.prog 9 #[.pointer (some ⟨p, 0, none⟩), .string s] w fun e w' => e = .returned (.tuple #[.int .i64 x.due, .int .i64 0]) ∧ w' = w := by
  obtain ⟨b, D, h⟩ := h
  have hk := p_find1.calls h hs hf
  have x0 : w.cell? ⟨b s, 0, none⟩ = some (.int .i64 x.due) := (h.blk s x hf).cell 0
  clear h hf
  generalize b s = g at hk x0
  go_enter Try.func9, Try.ntmps9
  go_wp2_with fail
  refine hk.mono ?_
  rintro e w1 ⟨rfl, rfl⟩
  go_wp2_with fail
  go_ret2
  exact ⟨rfl, rfl⟩
theorem p_Fails.dead {v : Value} {w : World} (h : Dead v w) (s : ByteArray) : Calls Try.prog 12 #[v, .string s] w fun e w' => e = .returned (.tuple #[.int .i64 0, .int .i64 2]) ∧ w' = w := by
  have hk := p_find.dead h s
  clear h
  go_enter Try.func12, Try.ntmps12
  go_wp2_with fail
  refine hk.mono ?_
  rintro e w1 ⟨rfl, rfl⟩
  go_wp2_with fail
  go_ret2
  exact ⟨rfl, rfl⟩
theorem p_Fails.calls {B N p m : Nat} {t : Int} {f : PF} {w : World} (h : PA B N p m t f w) {s : ByteArray} (hs : s.size ≤ maxLen) {x : Fd} (hf : f s = some x) :
    Calls Try.prog 12 #[.pointer (some ⟨p, 0, none⟩), .string s] w fun e w' => e = .returned (.tuple #[.int .i64 x.fails, .int .i64 0]) ∧ w' = w := by
  obtain ⟨b, D, h⟩ := h
  have hk := p_find1.calls h hs hf
  have x0 : w.cell? ⟨b s, 1, none⟩ = some (.int .i64 x.fails) := (h.blk s x hf).cell 1
  clear h hf
  generalize b s = g at hk x0
  go_enter Try.func12, Try.ntmps12
  go_wp2_with fail
  refine hk.mono ?_
  rintro e w1 ⟨rfl, rfl⟩
  go_wp2_with fail
  go_ret2
  exact ⟨rfl, rfl⟩
/-- The wait behind so many failures. -/
def wt (n : Int) : Int := if 20 < n - 1 then 86400 else (if 86400 < wrap64 (60 * 2 ^ (n.toNat - 1)) then 86400 else wrap64 (60 * 2 ^ (n.toNat - 1)))
theorem p_wait.calls (w : World) {n : Int} (h : 1 ≤ n ∧ n < 9223372036854775808) : Calls Try.prog 29 #[.int .i64 n] w fun e w' => e = .returned (.int .i64 (wt n)) ∧ w' = w := by
  have hw : wrap64 (n - 1) = n - 1 := by unfold wrap64; omega
  by_cases h20 : 20 < n - 1
  · have HQ : Aside0 (wt n = 86400) := ⟨by unfold wt; rw [if_pos h20]⟩
    have h2 : IntKind.i64.wrap 62914560 = 62914560 := by decide
    go_enter Try.func29, Try.ntmps29
    go_wp2_with fail
    go_ret
    exact ⟨by rw [HQ.out]; rfl, rfl⟩
  · have h0 : ¬ (n - 1 < 0) := by omega
    have HQ : Aside0 (wt n = if 86400 < wrap64 (60 * 2 ^ (n.toNat - 1)) then 86400 else wrap64 (60 * 2 ^ (n.toNat - 1))) := ⟨by unfold wt; rw [if_neg h20]⟩
    have h20' : n - 1 ≤ 20 := by omega
    clear h
    go_enter Try.func29, Try.ntmps29
    go_wp2_with fail
    · go_ret
      exact ⟨by rw [HQ.out, if_pos h]; rfl, rfl⟩
    · go_ret
      exact ⟨by rw [HQ.out, if_neg (by omega)]; rfl, rfl⟩
theorem wt_at {n : Int} (h : 1 ≤ n) : 60 ≤ wt n ∧ wt n ≤ 86400 := by
  unfold wt
  split
  · omega
  · have hr : n = 1 ∨ n = 2 ∨ n = 3 ∨ n = 4 ∨ n = 5 ∨ n = 6 ∨ n = 7 ∨ n = 8 ∨ n = 9 ∨ n = 10 ∨ n = 11 ∨ n = 12 ∨ n = 13 ∨ n = 14 ∨ n = 15 ∨ n = 16 ∨ n = 17 ∨ n = 18 ∨ n = 19 ∨ n = 20 ∨ n = 21 := by omega
    rcases hr with rfl | rfl | rfl | rfl | rfl | rfl | rfl | rfl | rfl | rfl | rfl | rfl | rfl | rfl | rfl | rfl | rfl | rfl | rfl | rfl | rfl <;> decide +kernel
theorem wt_up {n : Int} (h : 1 ≤ n) : wt n ≤ wt (n + 1) := by
  by_cases h2 : 21 ≤ n
  · have e1 : wt (n + 1) = 86400 := by unfold wt; rw [if_pos (by omega)]
    rw [e1]
    exact (wt_at h).2
  · have hr : n = 1 ∨ n = 2 ∨ n = 3 ∨ n = 4 ∨ n = 5 ∨ n = 6 ∨ n = 7 ∨ n = 8 ∨ n = 9 ∨ n = 10 ∨ n = 11 ∨ n = 12 ∨ n = 13 ∨ n = 14 ∨ n = 15 ∨ n = 16 ∨ n = 17 ∨ n = 18 ∨ n = 19 ∨ n = 20 := by omega
    rcases hr with rfl | rfl | rfl | rfl | rfl | rfl | rfl | rfl | rfl | rfl | rfl | rfl | rfl | rfl | rfl | rfl | rfl | rfl | rfl | rfl <;> decide +kernel
theorem ltr_at {t : Int} (h : 0 ≤ t ∧ t ≤ 1099511627776) (now : Int) : 0 ≤ ltr t now ∧ ltr t now ≤ 1099511627776 := by
  unfold ltr
  split
  · split <;> omega
  · exact h
def capT (d : Int) : Int := if 1099511627776 < d then 1099511627776 else d
/-- What a fetch that is done makes of a feed. -/
def dnF (t : Int) (ok : Bool) (x : Fd) : Fd := ⟨capT (if ok then t + 600 else t + wt (x.fails + 1)), if ok then 0 else x.fails + 1, -1⟩
theorem p_Done.dead {v : Value} {w : World} (h : Dead v w) (now : Int) (s : ByteArray) (ok : Bool) : Calls Try.prog 11 #[v, .int .i64 now, .string s, .bool ok] w fun e w' => e = .returned (.int .i64 2) ∧ w' = w := by
  have hk := p_ok.dead h
  clear h
  go_enter Try.func11, Try.ntmps11
  go_wp2_with fail
  refine hk.mono ?_
  rintro e w1 ⟨rfl, rfl⟩
  go_wp2_with fail
  go_ret
  exact ⟨rfl, rfl⟩
/-- A feed that is there, and whether it is out. -/
theorem p_Done0.calls {B N p m : Nat} {t : Int} {f : PF} {w : World} (h : PA B N p m t f w) (now : Int) {s : ByteArray} (hs : s.size ≤ maxLen) (ok : Bool) (hf : f s = none) :
    Calls Try.prog 11 #[.pointer (some ⟨p, 0, none⟩), .int .i64 now, .string s, .bool ok] w fun e w' => e = .returned (.int .i64 6) ∧ PA B N p m (ltr t now) f w' ∧ Kp B w w' := by
  have hk := p_ok.calls h
  have hl := p_later.calls h now
  clear h
  go_enter Try.func11, Try.ntmps11
  go_wp2_with fail
  refine hk.mono ?_
  rintro e w1 ⟨rfl, rfl⟩
  go_wp2_with fail
  refine hl.mono ?_
  rintro e w1 ⟨rfl, ⟨b, D, h⟩, hK⟩
  have x1 : w1.cell? ⟨p, 1, none⟩ = some (.map (some m)) := h.pl.cell 1
  have hlk := h.look0 hs hf
  have H := Aside0.mk h
  have HK := Aside0.mk hK
  clear h hf hK hk hl
  go_wp2_with fail
  go_ret
  exact ⟨rfl, ⟨b, D, H.out⟩, HK.out⟩
theorem p_Done1.calls {B N p m : Nat} {t : Int} {f : PF} {w : World} (h : PA B N p m t f w) (now : Int) {s : ByteArray} (hs : s.size ≤ maxLen) (ok : Bool) {x : Fd} (hf : f s = some x) (ho : x.out < 0) :
    Calls Try.prog 11 #[.pointer (some ⟨p, 0, none⟩), .int .i64 now, .string s, .bool ok] w fun e w' => e = .returned (.int .i64 13) ∧ PA B N p m (ltr t now) f w' ∧ Kp B w w' := by
  have hk := p_ok.calls h
  have hl := p_later.calls h now
  have hd : decide (x.out < 0) = true := decide_eq_true ho
  clear h ho
  go_enter Try.func11, Try.ntmps11
  go_wp2_with fail
  refine hk.mono ?_
  rintro e w1 ⟨rfl, rfl⟩
  go_wp2_with fail
  refine hl.mono ?_
  rintro e w1 ⟨rfl, ⟨b, D, h⟩, hK⟩
  have x1 : w1.cell? ⟨p, 1, none⟩ = some (.map (some m)) := h.pl.cell 1
  have x2 : w1.cell? ⟨b s, 2, none⟩ = some (.int .i64 x.out) := (h.blk s x hf).cell 2
  have hlk := h.look1 hs hf
  have H := Aside0.mk h
  have HK := Aside0.mk hK
  clear h hf hK hk hl
  generalize b s = g at hlk x2
  go_wp2_with fail
  go_ret
  exact ⟨rfl, ⟨b, D, H.out⟩, HK.out⟩
theorem done_end {B N p m g : Nat} {b : ByteArray → Nat} {D : DataW Value} {t : Int} {f : PF} {w w1 w4 : World} {s : ByteArray} {x y z : Fd} (h : Pl B N p m b D t f w1) (hf : f s = some x) (hg : g = b s) (hB : B ≤ g)
    (hk : Kp B w w1) (k4 : Kp B w1 w4) (e4 : ∀ i, i ≠ g → w4.heap[i]? = w1.heap[i]?) (c4 : Blk.At g (fdC y) 57 w4) {i : Nat} {v : Value} (hz : (fdC y).setIfInBounds i v = fdC z) :
    PA B N p m t (upd f s (some z)) (w4.setCell ⟨g, i, none⟩ v) ∧ Kp B w (w4.setCell ⟨g, i, none⟩ v) := by
  subst hg
  have c5 := c4.set i v
  rw [hz] at c5
  exact ⟨⟨b, D, h.feed hf c5 (fun j hj _ => (Below.heap_setCell _ _ _ _ hj).trans (e4 j hj))⟩, (hk.trans k4).trans (Kp.setCell hB (keyed_at c4 (.inr rfl)))⟩
set_option maxHeartbeats 4000000 in
theorem p_Done2.calls {B N p m : Nat} {t : Int} {f : PF} {w : World} (h : PA B N p m t f w) (now : Int) {s : ByteArray} (hs : s.size ≤ maxLen) (ok : Bool) {x : Fd} (hf : f s = some x) (ho : 0 ≤ x.out) (ht : 0 ≤ t ∧ t ≤ 1099511627776) (hx : 0 ≤ x.fails ∧ x.fails < 1000000) :
    Calls Try.prog 11 #[.pointer (some ⟨p, 0, none⟩), .int .i64 now, .string s, .bool ok] w fun e w' => e = .returned (.int .i64 0) ∧ PA B N p m (ltr t now) (upd f s (some (dnF (ltr t now) ok x))) w' ∧ Kp B w w' := by
  have hk := p_ok.calls h
  have hl := p_later.calls h now
  have ht' := ltr_at ht now
  have hd : decide (x.out < 0) = false := decide_eq_false (by omega)
  have hwn : wrap64 (x.fails + 1) = x.fails + 1 := by unfold wrap64; omega
  have hwt := wt_at (n := x.fails + 1) (by omega)
  have hws : wrap64 (ltr t now + wt (x.fails + 1)) = ltr t now + wt (x.fails + 1) := by unfold wrap64; omega
  have hw6 : wrap64 (ltr t now + 600) = ltr t now + 600 := by unfold wrap64; omega
  have HWC := fun W => p_wait.calls W (n := x.fails + 1) (by omega)
  have HWC := Aside0.mk HWC
  clear h ho ht hx hwt ht'
  generalize ltr t now = t1 at hl hws hw6 ⊢
  go_enter Try.func11, Try.ntmps11
  go_wp2_with fail
  refine hk.mono ?_
  rintro e w1 ⟨rfl, rfl⟩
  go_wp2_with fail
  refine hl.mono ?_
  rintro e w1 ⟨rfl, ⟨b, D, h⟩, hK⟩
  have x1 : w1.cell? ⟨p, 1, none⟩ = some (.map (some m)) := h.pl.cell 1
  have hb := h.blk s x hf
  obtain ⟨g, hg⟩ : ∃ g, g = b s := ⟨_, rfl⟩
  have hlk := h.look1 hs hf
  rw [← hg] at hb hlk
  have hgp : p ≠ g := fun e => by
    have h1 := h.pl
    unfold Blk.At at h1 hb
    rw [e, hb] at h1
    cases h1
  have x2 : w1.cell? ⟨g, 2, none⟩ = some (.int .i64 x.out) := hb.cell 2
  have y2 : w1.frozen? ⟨g, 2, none⟩ = false := hb.frozen 2
  have c2 := hb.set 2 (.int .i64 (-1))
  have p2 := h.pl.set_other (fun e => hgp e.symm) 2 (.int .i64 (-1)) (g := g)
  obtain ⟨w2, hw2⟩ : ∃ w2, w2 = w1.setCell ⟨g, 2, none⟩ (.int .i64 (-1)) := ⟨_, rfl⟩
  have e2 : ∀ i, i ≠ g → w2.heap[i]? = w1.heap[i]? := fun i hi => by rw [hw2]; exact Below.heap_setCell _ _ _ _ hi
  have k2 : Kp B w1 w2 := by rw [hw2]; exact Kp.setCell (hg ▸ h.bB s x hf) (keyed_at hb (.inr rfl))
  rw [← hw2] at c2 p2
  have f1 : w2.cell? ⟨g, 1, none⟩ = some (.int .i64 x.fails) := c2.cell 1
  have f1' : w2.frozen? ⟨g, 1, none⟩ = false := c2.frozen 1
  have c3 := c2.set 1 (.int .i64 (x.fails + 1))
  have p3 := p2.set_other (fun e => hgp e.symm) 1 (.int .i64 (x.fails + 1)) (g := g)
  obtain ⟨w3, hw3⟩ : ∃ w3, w3 = w2.setCell ⟨g, 1, none⟩ (.int .i64 (x.fails + 1)) := ⟨_, rfl⟩
  have e3 : ∀ i, i ≠ g → w3.heap[i]? = w1.heap[i]? := fun i hi => by rw [hw3]; exact (Below.heap_setCell _ _ _ _ hi).trans (e2 i hi)
  have k3 : Kp B w1 w3 := by rw [hw3]; exact k2.trans (Kp.setCell (hg ▸ h.bB s x hf) (keyed_at c2 (.inr rfl)))
  rw [← hw3] at c3 p3
  have g0 : w3.cell? ⟨g, 0, none⟩ = some (.int .i64 x.due) := c3.cell 0
  have g1 : w3.cell? ⟨g, 1, none⟩ = some (.int .i64 (x.fails + 1)) := c3.cell 1
  have g0' : w3.frozen? ⟨g, 0, none⟩ = false := c3.frozen 0
  have q0 : w3.cell? ⟨p, 0, none⟩ = some (.int .i64 t1) := p3.cell 0
  have c4 := (c3.set 0 (.int .i64 (t1 + wt (x.fails + 1)))).drew
  have p4 := (p3.set_other (fun e => hgp e.symm) 0 (.int .i64 (t1 + wt (x.fails + 1))) (g := g)).drew
  obtain ⟨w4, hw4⟩ : ∃ w4, w4 = (w3.setCell ⟨g, 0, none⟩ (.int .i64 (t1 + wt (x.fails + 1)))).drew := ⟨_, rfl⟩
  have e4 : ∀ i, i ≠ g → w4.heap[i]? = w1.heap[i]? := fun i hi => by rw [hw4]; exact (Below.heap_setCell _ _ _ _ hi).trans (e3 i hi)
  have k4 : Kp B w1 w4 := by rw [hw4]; exact (k3.trans (Kp.setCell (hg ▸ h.bB s x hf) (keyed_at c3 (.inr rfl)))).trans (Kp.of_below (below_drew (Below.refl _ _)))
  rw [← hw4] at c4 p4
  have r0 : w4.cell? ⟨p, 0, none⟩ = some (.int .i64 t1) := p4.cell 0
  have u1 : w4.cell? ⟨g, 1, none⟩ = some (.int .i64 (x.fails + 1)) := c4.cell 1
  have u1' : w4.frozen? ⟨g, 1, none⟩ = false := c4.frozen 1
  have u0 : w4.cell? ⟨g, 0, none⟩ = some (.int .i64 (t1 + wt (x.fails + 1))) := c4.cell 0
  have u0' : w4.frozen? ⟨g, 0, none⟩ = false := c4.frozen 0
  have E4 := Aside0.mk e4
  have K4 := Aside0.mk k4
  have C4 := Aside0.mk c4
  have P4 := Aside0.mk p4
  have H := Aside0.mk h
  have HK1 := Aside0.mk hK
  have HE := Aside0.mk e3
  have HF := Aside0.mk hf
  have HG := Aside0.mk hg
  have C3 := Aside0.mk c3
  have P3 := Aside0.mk p3
  clear h hf hK hk hl hb hg c2 p2 e2 k2 c3 p3 e3 k3 c4 p4 e4 k4
  replace hw2 := hw2.symm
  replace hw3 := hw3.symm
  replace hw4 := hw4.symm
  have HBB := Aside0.mk (show B ≤ g from HG.out ▸ H.out.bB s x HF.out)
  cases ok
  case false =>
    generalize hV : t1 + wt (x.fails + 1) = V at *
    go_wp2_with fail
    refine start_ (n := 14) (S := fun w' => w'.cell? ⟨p, 0, none⟩ = some (.int .i64 t1) ∧ w'.cell? ⟨g, 1, none⟩ = some (.int .i64 (x.fails + 1)) ∧ w'.cell? ⟨g, 0, none⟩ = some (.int .i64 x.due) ∧ w'.frozen? ⟨g, 0, none⟩ = false) (ds := [13]) #[false, false, false, false, false, false, false, false, false, false, false, false, false, false] (by kernel_rfl) rfl rfl ⟨q0, g1, g0, g0'⟩ (fun hHeld => ?_)
    refine pure_ (i := 0) (N := some 41) (v := ?_) (a' := ?_) #[true, false, false, false, false, false, false, false, false, false, false, false, false, false] rfl rfl (by kernel_rfl) (fun _ _ _ h => h) (Or.inl ⟨by rfl, ?_⟩) ?_ ?_
    rotate_left
    · intro w'
      go_simp
      with_reducible rfl
    rotate_left
    · simp only [Act.put, List.setIfInBounds_toArray, List.set_cons_zero, List.set_cons_succ, i64_w, i32_w]
      rfl
    refine pure_ (i := 1) (N := some 42) (v := ?_) (a' := ?_) #[true, true, false, false, false, false, false, false, false, false, false, false, false, false] rfl rfl (by kernel_rfl) (fun _ _ _ h => h) (Or.inl ⟨by rfl, ?_⟩) ?_ ?_
    rotate_left
    · intro w'
      go_simp
      with_reducible rfl
    rotate_left
    · simp only [Act.put, List.setIfInBounds_toArray, List.set_cons_zero, List.set_cons_succ, i64_w, i32_w]
      rfl
    refine pure_ (i := 2) (N := some 43) (v := ?_) (a' := ?_) #[true, true, true, false, false, false, false, false, false, false, false, false, false, false] rfl rfl (by kernel_rfl) (fun _ _ _ h => h) (Or.inl ⟨by rfl, ?_⟩) ?_ ?_
    rotate_left
    · intro w'
      go_simp
      with_reducible rfl
    rotate_left
    · simp only [Act.put, List.setIfInBounds_toArray, List.set_cons_zero, List.set_cons_succ, i64_w, i32_w]
      rfl
    refine pure_ (i := 3) (N := some 44) (v := ?_) (a' := ?_) #[true, true, true, true, false, false, false, false, false, false, false, false, false, false] rfl rfl (by kernel_rfl) (fun _ _ _ h => h) (Or.inl ⟨by rfl, ?_⟩) ?_ ?_
    rotate_left
    · intro w'
      go_simp
      with_reducible rfl
    rotate_left
    · simp only [Act.put, List.setIfInBounds_toArray, List.set_cons_zero, List.set_cons_succ, i64_w, i32_w]
      rfl
    refine pure_ (i := 5) (N := some 46) (v := ?_) (a' := ?_) #[true, true, true, true, false, true, false, false, false, false, false, false, false, false] rfl rfl (by kernel_rfl) (fun _ _ _ h => h) (Or.inl ⟨by rfl, ?_⟩) ?_ ?_
    rotate_left
    · intro w'
      go_simp
      with_reducible rfl
    rotate_left
    · simp only [Act.put, List.setIfInBounds_toArray, List.set_cons_zero, List.set_cons_succ, i64_w, i32_w]
      rfl
    refine pure_ (i := 6) (N := some 47) (v := ?_) (a' := ?_) #[true, true, true, true, false, true, true, false, false, false, false, false, false, false] rfl rfl (by kernel_rfl) (fun _ _ _ h => h) (Or.inl ⟨by rfl, ?_⟩) ?_ ?_
    rotate_left
    · intro w'
      go_simp
      with_reducible rfl
    rotate_left
    · simp only [Act.put, List.setIfInBounds_toArray, List.set_cons_zero, List.set_cons_succ, i64_w, i32_w]
      rfl
    refine pure_ (i := 7) (N := some 48) (v := ?_) (a' := ?_) #[true, true, true, true, false, true, true, true, false, false, false, false, false, false] rfl rfl (by kernel_rfl) (fun _ _ _ h => h) (Or.inl ⟨by rfl, ?_⟩) ?_ ?_
    rotate_left
    · intro w'
      go_simp
      with_reducible rfl
    rotate_left
    · simp only [Act.put, List.setIfInBounds_toArray, List.set_cons_zero, List.set_cons_succ, i64_w, i32_w]
      rfl
    refine take_ (i := 4) (N := some 45) (v := ?_) (a' := ?_) #[true, true, true, true, true, true, true, true, false, false, false, false, false, false] rfl rfl (by kernel_rfl) (fun _ _ _ h => h) (Or.inl ⟨by rfl, ?_⟩) hHeld ?_ ?_
    rotate_left
    · rintro w' ⟨s0, s1, s2, s3⟩
      go_simp
      with_reducible rfl
    rotate_left
    · simp only [Act.put, List.setIfInBounds_toArray, List.set_cons_zero, List.set_cons_succ, i64_w, i32_w]
      rfl
    refine take_ (i := 8) (N := some 49) (v := ?_) (a' := ?_) #[true, true, true, true, true, true, true, true, true, false, false, false, false, false] rfl rfl (by kernel_rfl) (fun _ _ _ h => h) (Or.inl ⟨by rfl, ?_⟩) hHeld ?_ ?_
    rotate_left
    · rintro w' ⟨s0, s1, s2, s3⟩
      go_simp
      with_reducible rfl
    rotate_left
    · simp only [Act.put, List.setIfInBounds_toArray, List.set_cons_zero, List.set_cons_succ, i64_w, i32_w]
      rfl
    refine one_ (i := 9) (N := some 50) #[true, true, true, true, true, true, true, true, true, true, false, false, false, false] rfl rfl (by kernel_rfl) (by decide) (fun K hK => ?_)
    refine goes_ Try.func29 (by kernel_rfl) rfl #[.int .i64 (x.fails + 1)] (by rfl) rfl rfl (by simp only [List.map_toArray, List.map_cons, List.map_nil]; rfl) ?_
    with_reducible refine ((HWC.out _)).mono ?_
    rintro e w4 ⟨rfl, rfl⟩
    refine ⟨_, rfl, ?_⟩
    refine hK.out _ _ ⟨q0, g1, g0, g0'⟩ (fun hHeld => ?_)
    clear hK K
    refine norm_ (a' := ?_) ?_ ?_
    rotate_left
    · show Act.put _ (some 50) _ = _
      simp only [Act.put, List.setIfInBounds_toArray, List.set_cons_zero, List.set_cons_succ, i64_w, i32_w]
      rfl
    refine pure_ (i := 10) (N := some 51) (v := ?_) (a' := ?_) #[true, true, true, true, true, true, true, true, true, true, true, false, false, false] rfl rfl (by kernel_rfl) (fun _ _ _ h => h) (Or.inl ⟨by rfl, ?_⟩) ?_ ?_
    rotate_left
    · intro w'
      go_simp
      with_reducible rfl
    rotate_left
    · simp only [Act.put, List.setIfInBounds_toArray, List.set_cons_zero, List.set_cons_succ, i64_w, i32_w]
      rfl
    refine pure_ (i := 11) (N := some 52) (v := ?_) (a' := ?_) #[true, true, true, true, true, true, true, true, true, true, true, true, false, false] rfl rfl (by kernel_rfl) (fun _ _ _ h => h) (Or.inl ⟨by rfl, ?_⟩) ?_ ?_
    rotate_left
    · intro w'
      go_simp
      with_reducible rfl
    rotate_left
    · simp only [Act.put, List.setIfInBounds_toArray, List.set_cons_zero, List.set_cons_succ, i64_w, i32_w]
      rfl
    refine pure_ (i := 12) (N := some 53) (v := ?_) (a' := ?_) #[true, true, true, true, true, true, true, true, true, true, true, true, true, false] rfl rfl (by kernel_rfl) (fun _ _ _ h => h) (Or.inl ⟨by rfl, ?_⟩) ?_ ?_
    rotate_left
    · intro w'
      go_simp
      with_reducible rfl
    rotate_left
    · simp only [Act.put, List.setIfInBounds_toArray, List.set_cons_zero, List.set_cons_succ, i64_w, i32_w]
      rfl
    refine last_ (i := 13) (N := none) #[true, true, true, true, true, true, true, true, true, true, true, true, true, true] rfl rfl (by kernel_rfl) (by decide) (fun K hK => ?_)
    refine skip_ (w1 := ?_) (by rfl) rfl ?_ ?_
    rotate_left
    · go_simp
      rfl
    refine hK.out _ _ ?_
    clear hK K
    refine done_ (by kernel_rfl) ?_
    by_cases hc : 1099511627776 < V
    · go_wp2_with fail
      go_ret
      have e1 : dnF t1 false x = ⟨1099511627776, x.fails + 1, -1⟩ := by simp [dnF, capT, hV, hc]
      rw [e1]
      exact ⟨rfl, done_end H.out HF.out HG.out HBB.out HK1.out K4.out E4.out (y := ⟨V, x.fails + 1, -1⟩) C4.out rfl⟩
    · go_wp2_with fail
      go_ret
      have e1 : dnF t1 false x = ⟨V, x.fails + 1, -1⟩ := by
        simp [dnF, capT, hV]
        omega
      rw [e1]
      exact ⟨rfl, done_end H.out HF.out HG.out HBB.out HK1.out K4.out E4.out (y := ⟨V, x.fails + 1, -1⟩) C4.out rfl⟩
  case true =>
    have c5 := C4.out.set 1 (.int .i64 0)
    obtain ⟨w5, hw5⟩ : ∃ w5, w5 = w4.setCell ⟨g, 1, none⟩ (.int .i64 0) := ⟨_, rfl⟩
    have e5 : ∀ i, i ≠ g → w5.heap[i]? = w1.heap[i]? := fun i hi => by rw [hw5]; exact (Below.heap_setCell _ _ _ _ hi).trans (E4.out i hi)
    have k5 : Kp B w1 w5 := by rw [hw5]; exact K4.out.trans (Kp.setCell HBB.out (keyed_at C4.out (.inr rfl)))
    rw [← hw5] at c5
    have v0 : w5.cell? ⟨g, 0, none⟩ = some (.int .i64 (t1 + wt (x.fails + 1))) := c5.cell 0
    have v0' : w5.frozen? ⟨g, 0, none⟩ = false := c5.frozen 0
    have c6 := c5.set 0 (.int .i64 (t1 + 600))
    obtain ⟨w6, hw6'⟩ : ∃ w6, w6 = w5.setCell ⟨g, 0, none⟩ (.int .i64 (t1 + 600)) := ⟨_, rfl⟩
    have e6 : ∀ i, i ≠ g → w6.heap[i]? = w1.heap[i]? := fun i hi => by rw [hw6']; exact (Below.heap_setCell _ _ _ _ hi).trans (e5 i hi)
    have k6 : Kp B w1 w6 := by rw [hw6']; exact k5.trans (Kp.setCell HBB.out (keyed_at c5 (.inr rfl)))
    rw [← hw6'] at c6
    have z0 : w6.cell? ⟨g, 0, none⟩ = some (.int .i64 (t1 + 600)) := c6.cell 0
    have z0' : w6.frozen? ⟨g, 0, none⟩ = false := c6.frozen 0
    have E6 := Aside0.mk e6
    have K6 := Aside0.mk k6
    have C6 := Aside0.mk c6
    clear c5 c6 e5 e6 k5 k6
    replace hw5 := hw5.symm
    replace hw6' := hw6'.symm
    generalize hV : t1 + wt (x.fails + 1) = V at *
    generalize hU : t1 + 600 = U at *
    go_wp2_with fail
    refine start_ (n := 14) (S := fun w' => w'.cell? ⟨p, 0, none⟩ = some (.int .i64 t1) ∧ w'.cell? ⟨g, 1, none⟩ = some (.int .i64 (x.fails + 1)) ∧ w'.cell? ⟨g, 0, none⟩ = some (.int .i64 x.due) ∧ w'.frozen? ⟨g, 0, none⟩ = false) (ds := [13]) #[false, false, false, false, false, false, false, false, false, false, false, false, false, false] (by kernel_rfl) rfl rfl ⟨q0, g1, g0, g0'⟩ (fun hHeld => ?_)
    refine pure_ (i := 0) (N := some 41) (v := ?_) (a' := ?_) #[true, false, false, false, false, false, false, false, false, false, false, false, false, false] rfl rfl (by kernel_rfl) (fun _ _ _ h => h) (Or.inl ⟨by rfl, ?_⟩) ?_ ?_
    rotate_left
    · intro w'
      go_simp
      with_reducible rfl
    rotate_left
    · simp only [Act.put, List.setIfInBounds_toArray, List.set_cons_zero, List.set_cons_succ, i64_w, i32_w]
      rfl
    refine pure_ (i := 1) (N := some 42) (v := ?_) (a' := ?_) #[true, true, false, false, false, false, false, false, false, false, false, false, false, false] rfl rfl (by kernel_rfl) (fun _ _ _ h => h) (Or.inl ⟨by rfl, ?_⟩) ?_ ?_
    rotate_left
    · intro w'
      go_simp
      with_reducible rfl
    rotate_left
    · simp only [Act.put, List.setIfInBounds_toArray, List.set_cons_zero, List.set_cons_succ, i64_w, i32_w]
      rfl
    refine pure_ (i := 2) (N := some 43) (v := ?_) (a' := ?_) #[true, true, true, false, false, false, false, false, false, false, false, false, false, false] rfl rfl (by kernel_rfl) (fun _ _ _ h => h) (Or.inl ⟨by rfl, ?_⟩) ?_ ?_
    rotate_left
    · intro w'
      go_simp
      with_reducible rfl
    rotate_left
    · simp only [Act.put, List.setIfInBounds_toArray, List.set_cons_zero, List.set_cons_succ, i64_w, i32_w]
      rfl
    refine pure_ (i := 3) (N := some 44) (v := ?_) (a' := ?_) #[true, true, true, true, false, false, false, false, false, false, false, false, false, false] rfl rfl (by kernel_rfl) (fun _ _ _ h => h) (Or.inl ⟨by rfl, ?_⟩) ?_ ?_
    rotate_left
    · intro w'
      go_simp
      with_reducible rfl
    rotate_left
    · simp only [Act.put, List.setIfInBounds_toArray, List.set_cons_zero, List.set_cons_succ, i64_w, i32_w]
      rfl
    refine pure_ (i := 5) (N := some 46) (v := ?_) (a' := ?_) #[true, true, true, true, false, true, false, false, false, false, false, false, false, false] rfl rfl (by kernel_rfl) (fun _ _ _ h => h) (Or.inl ⟨by rfl, ?_⟩) ?_ ?_
    rotate_left
    · intro w'
      go_simp
      with_reducible rfl
    rotate_left
    · simp only [Act.put, List.setIfInBounds_toArray, List.set_cons_zero, List.set_cons_succ, i64_w, i32_w]
      rfl
    refine pure_ (i := 6) (N := some 47) (v := ?_) (a' := ?_) #[true, true, true, true, false, true, true, false, false, false, false, false, false, false] rfl rfl (by kernel_rfl) (fun _ _ _ h => h) (Or.inl ⟨by rfl, ?_⟩) ?_ ?_
    rotate_left
    · intro w'
      go_simp
      with_reducible rfl
    rotate_left
    · simp only [Act.put, List.setIfInBounds_toArray, List.set_cons_zero, List.set_cons_succ, i64_w, i32_w]
      rfl
    refine pure_ (i := 7) (N := some 48) (v := ?_) (a' := ?_) #[true, true, true, true, false, true, true, true, false, false, false, false, false, false] rfl rfl (by kernel_rfl) (fun _ _ _ h => h) (Or.inl ⟨by rfl, ?_⟩) ?_ ?_
    rotate_left
    · intro w'
      go_simp
      with_reducible rfl
    rotate_left
    · simp only [Act.put, List.setIfInBounds_toArray, List.set_cons_zero, List.set_cons_succ, i64_w, i32_w]
      rfl
    refine take_ (i := 4) (N := some 45) (v := ?_) (a' := ?_) #[true, true, true, true, true, true, true, true, false, false, false, false, false, false] rfl rfl (by kernel_rfl) (fun _ _ _ h => h) (Or.inl ⟨by rfl, ?_⟩) hHeld ?_ ?_
    rotate_left
    · rintro w' ⟨s0, s1, s2, s3⟩
      go_simp
      with_reducible rfl
    rotate_left
    · simp only [Act.put, List.setIfInBounds_toArray, List.set_cons_zero, List.set_cons_succ, i64_w, i32_w]
      rfl
    refine take_ (i := 8) (N := some 49) (v := ?_) (a' := ?_) #[true, true, true, true, true, true, true, true, true, false, false, false, false, false] rfl rfl (by kernel_rfl) (fun _ _ _ h => h) (Or.inl ⟨by rfl, ?_⟩) hHeld ?_ ?_
    rotate_left
    · rintro w' ⟨s0, s1, s2, s3⟩
      go_simp
      with_reducible rfl
    rotate_left
    · simp only [Act.put, List.setIfInBounds_toArray, List.set_cons_zero, List.set_cons_succ, i64_w, i32_w]
      rfl
    refine one_ (i := 9) (N := some 50) #[true, true, true, true, true, true, true, true, true, true, false, false, false, false] rfl rfl (by kernel_rfl) (by decide) (fun K hK => ?_)
    refine goes_ Try.func29 (by kernel_rfl) rfl #[.int .i64 (x.fails + 1)] (by rfl) rfl rfl (by simp only [List.map_toArray, List.map_cons, List.map_nil]; rfl) ?_
    with_reducible refine ((HWC.out _)).mono ?_
    rintro e w4 ⟨rfl, rfl⟩
    refine ⟨_, rfl, ?_⟩
    refine hK.out _ _ ⟨q0, g1, g0, g0'⟩ (fun hHeld => ?_)
    clear hK K
    refine norm_ (a' := ?_) ?_ ?_
    rotate_left
    · show Act.put _ (some 50) _ = _
      simp only [Act.put, List.setIfInBounds_toArray, List.set_cons_zero, List.set_cons_succ, i64_w, i32_w]
      rfl
    refine pure_ (i := 10) (N := some 51) (v := ?_) (a' := ?_) #[true, true, true, true, true, true, true, true, true, true, true, false, false, false] rfl rfl (by kernel_rfl) (fun _ _ _ h => h) (Or.inl ⟨by rfl, ?_⟩) ?_ ?_
    rotate_left
    · intro w'
      go_simp
      with_reducible rfl
    rotate_left
    · simp only [Act.put, List.setIfInBounds_toArray, List.set_cons_zero, List.set_cons_succ, i64_w, i32_w]
      rfl
    refine pure_ (i := 11) (N := some 52) (v := ?_) (a' := ?_) #[true, true, true, true, true, true, true, true, true, true, true, true, false, false] rfl rfl (by kernel_rfl) (fun _ _ _ h => h) (Or.inl ⟨by rfl, ?_⟩) ?_ ?_
    rotate_left
    · intro w'
      go_simp
      with_reducible rfl
    rotate_left
    · simp only [Act.put, List.setIfInBounds_toArray, List.set_cons_zero, List.set_cons_succ, i64_w, i32_w]
      rfl
    refine pure_ (i := 12) (N := some 53) (v := ?_) (a' := ?_) #[true, true, true, true, true, true, true, true, true, true, true, true, true, false] rfl rfl (by kernel_rfl) (fun _ _ _ h => h) (Or.inl ⟨by rfl, ?_⟩) ?_ ?_
    rotate_left
    · intro w'
      go_simp
      with_reducible rfl
    rotate_left
    · simp only [Act.put, List.setIfInBounds_toArray, List.set_cons_zero, List.set_cons_succ, i64_w, i32_w]
      rfl
    refine last_ (i := 13) (N := none) #[true, true, true, true, true, true, true, true, true, true, true, true, true, true] rfl rfl (by kernel_rfl) (by decide) (fun K hK => ?_)
    refine skip_ (w1 := ?_) (by rfl) rfl ?_ ?_
    rotate_left
    · go_simp
      rfl
    refine hK.out _ _ ?_
    clear hK K
    refine done_ (by kernel_rfl) ?_
    by_cases hc : 1099511627776 < U
    · go_wp2_with fail
      go_ret
      have e1 : dnF t1 true x = ⟨1099511627776, 0, -1⟩ := by simp [dnF, capT, hU, hc]
      rw [e1]
      exact ⟨rfl, done_end H.out HF.out HG.out HBB.out HK1.out K6.out E6.out (y := ⟨U, 0, -1⟩) C6.out rfl⟩
    · go_wp2_with fail
      go_ret
      have e1 : dnF t1 true x = ⟨U, 0, -1⟩ := by
        simp [dnF, capT, hU]
        omega
      rw [e1]
      exact ⟨rfl, done_end H.out HF.out HG.out HBB.out HK1.out K6.out E6.out (y := ⟨U, 0, -1⟩) C6.out rfl⟩
end Go.Proofs.Ytomkjakffpomdaa.Q
