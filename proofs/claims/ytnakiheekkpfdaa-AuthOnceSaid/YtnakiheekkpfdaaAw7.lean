/- The law of what is told once, walked. No condition but those typed. -/
import Derived.Test.YtnakiheekkpfdaaAw5
namespace Go.Proofs.Ytnakiheekkpfdaa.Q
open Go.RowKit Go.Maps Go.Sort Go.Shelf Go.Proofs.YtnakiheekkpfdaaW.PrintWords Go.Proofs.YtnakiheekkpfdaaW.PrintLast Go.Proofs.YtnakiheekkpfdaaW.PrintMore
attribute [local go_sem] max2_int min2_int max_two min_two max_three min_three max_four min_four   -- for this text's walks alone
set_option linter.unusedVariables false
set_option linter.unusedSimpArgs false
set_option maxRecDepth 100000
/-! ### Who waits, as the law keeps it -/
abbrev WF := Int → Option ByteArray
def updI (f : WF) (k : Int) (x : Option ByteArray) : WF := fun j => if j = k then x else f j
theorem updI_same (f : WF) (k : Int) (x : Option ByteArray) : updI f k x k = x := by simp [updI]
theorem updI_other (f : WF) {k j : Int} (h : j ≠ k) (x : Option ByteArray) : updI f k x j = f j := by simp [updI, h]
def il (k : Int) : Lit := .int .i64 k
theorem il_ne {a b : Int} (h : a ≠ b) : il a ≠ il b := fun e => h (by simpa [il] using e)
theorem il_key (k : Int) : WideAt.IsKeyLit (il k) := by simp [il, WideAt.IsKeyLit]
theorem key3 : Keyed Try.prog 3 := Go.Maps.int_keyed Try.underlying3
theorem keyOf3 {k : Int} (h : 0 ≤ k ∧ k < 1000) : keyOf Try.prog 3 (.int .i64 k) = some (il k) := Go.Maps.keyOf_int_mk Try.underlying3 (by
  simp [Lit.wf, IntKind.min, IntKind.max, IntKind.signed, IntKind.bits]
  omega)
theorem zero9 (w : World) : (zeroValue 9).run Try.prog w = .ok (.string ByteArray.empty) w := by kernel_rfl
structure Wm (mw sz : Nat) (wm : WF) (D : DataW Value) (w : World) : Prop where
  own : w.ownsMap Try.prog 3 RV mw 1000 D
  has : ∀ k, Maps.has D (il k) = (wm k).isSome
  at_ : ∀ k s, wm k = some s → ∀ z, D.atKey (il k) z = .held (.string s)
  siz : Maps.size D = sz
def WA (mw sz : Nat) (wm : WF) (w : World) : Prop := ∃ D, Wm mw sz wm D w
theorem WA.at_ {mw sz : Nat} {wm : WF} {w w' : World} (h : WA mw sz wm w) (hn : w'.heap[mw]? = w.heap[mw]?) : WA mw sz wm w' := by
  obtain ⟨D, h⟩ := h
  exact ⟨D, { h with own := own_at h.own hn }⟩
theorem WA.ku {F : Nat → Prop} {mw sz : Nat} {wm : WF} {w w' : World} (h : WA mw sz wm w) (hk : Ku F w w') (hF : ¬ F mw) : WA mw sz wm w' := h.at_ (hk.low mw (by obtain ⟨D, h⟩ := h; exact h.own.lt) hF)
theorem WA.below {mw sz : Nat} {wm : WF} {w w' : World} (h : WA mw sz wm w) (hb : Below w.heap.size w w') : WA mw sz wm w' := h.at_ (hb.block mw (by obtain ⟨D, h⟩ := h; exact h.own.lt))
theorem WA.lt {mw sz : Nat} {wm : WF} {w : World} (h : WA mw sz wm w) : mw < w.heap.size := by obtain ⟨D, h⟩ := h; exact h.own.lt
theorem WA.map {mw sz : Nat} {wm : WF} {w : World} (h : WA mw sz wm w) : ∃ es cl, w.heap[mw]? = some (.map es cl) := by obtain ⟨D, h⟩ := h; exact own_block h.own
theorem WA.made (w : World) : WA w.heap.size 0 (fun _ => none) (w.alloc (.map #[] 0)) :=
  ⟨.map [], (World.ownsMap_made w Try.prog 3 RV).mono (Nat.zero_le _), fun k => rfl, fun k s h => (nomatch h), rfl⟩
theorem Wm.lookT {mw sz : Nat} {wm : WF} {D : DataW Value} {w : World} (h : Wm mw sz wm D w) {k : Int} (hk : 0 ≤ k ∧ k < 1000) :
    (Instr.lookup 43 (.map (some mw)) (.int .i64 k) true).run Try.prog w = .ok (.tuple #[.string ((wm k).getD ByteArray.empty), .bool (wm k).isSome]) w := by
  obtain ⟨v, ps, hr, hv⟩ := h.own.look_ok key3 Try.underlying43 (zero9 w) (zd := .held (.string ByteArray.empty)) (zp := []) rfl (keyOf3 hk)
  rw [hr, h.has k]
  have hv' : DataW.held v = D.atKey (il k) (.held (.string ByteArray.empty)) := congrArg Prod.fst (Option.some.inj hv)
  cases hf : wm k with
  | none =>
    rw [Maps.atKey_of_not_has (k := il k) (D := D) (by rw [h.has k, hf]; rfl) _] at hv'
    cases hv'
    rfl
  | some x =>
    rw [h.at_ k x hf] at hv'
    cases hv'
    rfl
theorem Wm.lookF {mw sz : Nat} {wm : WF} {D : DataW Value} {w : World} (h : Wm mw sz wm D w) {k : Int} (hk : 0 ≤ k ∧ k < 1000) :
    (Instr.lookup 43 (.map (some mw)) (.int .i64 k) false).run Try.prog w = .ok (.string ((wm k).getD ByteArray.empty)) w := by
  obtain ⟨v, ps, hr, hv⟩ := h.own.lookup key3 Try.underlying43 (zero9 w) (zd := .held (.string ByteArray.empty)) (zp := []) rfl (keyOf3 hk)
  rw [hr]
  have hv' : DataW.held v = D.atKey (il k) (.held (.string ByteArray.empty)) := congrArg Prod.fst (Option.some.inj hv)
  cases hf : wm k with
  | none =>
    rw [Maps.atKey_of_not_has (k := il k) (D := D) (by rw [h.has k, hf]; rfl) _] at hv'
    cases hv'
    rfl
  | some x =>
    rw [h.at_ k x hf] at hv'
    cases hv'
    rfl
theorem Wm.put {mw sz n : Nat} {wm : WF} {D : DataW Value} {w w' : World} (h : Wm mw sz wm D w) {k : Int} (hk : wm k = none) (hs : sz < 1000) {s : ByteArray} (ho : w'.ownsMap Try.prog 3 RV mw n (D.put (il k) (.held (.string s)))) : WA mw (sz + 1) (updI wm k (some s)) w' := by
  have hsz : Maps.size (D.put (il k) (.held (.string s))) = sz + 1 := by
    rw [Maps.size_put (h.own.tidy key3), h.has k, hk, h.siz]
    rfl
  refine ⟨_, own_size ho (by rw [hsz]; omega), fun j => ?_, fun j x hj z => ?_, hsz⟩
  · by_cases e : j = k
    · subst e; rw [updI_same, Maps.has_put_same h.own.isMap (il_key _)]; rfl
    · rw [updI_other _ e, Maps.has_put_other (il_ne e), h.has j]
  · by_cases e : j = k
    · subst e
      rw [updI_same] at hj
      cases hj
      rw [Maps.atKey_put_same h.own.isMap (il_key _)]
    · rw [updI_other _ e] at hj
      rw [Maps.atKey_put_other (il_ne e), h.at_ j x hj z]
theorem Wm.del {mw sz : Nat} {wm : WF} {D : DataW Value} {w w' : World} (h : Wm mw sz wm D w) {k : Int} (ho : w'.ownsMap Try.prog 3 RV mw 1000 (D.del (il k))) : WA mw (sz - (if (wm k).isSome then 1 else 0)) (updI wm k none) w' := by
  have hsz := Maps.size_del (k := il k) (h.own.tidy key3)
  rw [h.has k, h.siz] at hsz
  refine ⟨_, ho, fun j => ?_, fun j x hj z => ?_, by omega⟩
  · by_cases e : j = k
    · subst e; rw [updI_same, Maps.has_del_same]; rfl
    · rw [updI_other _ e, Maps.has_del_other (il_ne e), h.has j]
  · by_cases e : j = k
    · subst e; rw [updI_same] at hj; cases hj
    · rw [updI_other _ e] at hj
      rw [Maps.atKey_del_other (il_ne e), h.at_ j x hj z]
/-! ### The law of what is told once, plain -/
structure On (i sz : Nat) (qs : AF) (wm : WF) : Prop where
  tot : Tot qs sz
  few : sz ≤ 64
  iff_ : ∀ k s, wm k = some s ↔ ∃ l, qs s = some l ∧ k ∈ l
  nd : ∀ s l, qs s = some l → l.Nodup ∧ l ≠ [] ∧ ∀ k ∈ l, 0 ≤ k ∧ k < (i : Int)
theorem On.start : On 0 0 (fun _ => none) (fun _ => none) := ⟨Tot.none_, by omega, fun k s => ⟨fun h => (nomatch h), fun ⟨l, h, _⟩ => (nomatch h)⟩, fun s l h => (nomatch h)⟩
theorem On.up {i sz : Nat} {qs : AF} {wm : WF} (h : On i sz qs wm) : On (i + 1) sz qs wm :=
  ⟨h.tot, h.few, h.iff_, fun s l hl => ⟨(h.nd s l hl).1, (h.nd s l hl).2.1, fun k hk => by have := (h.nd s l hl).2.2 k hk; omega⟩⟩
theorem On.dom {i sz : Nat} {qs : AF} {wm : WF} (h : On i sz qs wm) {k : Int} {s : ByteArray} (hk : wm k = some s) : 0 ≤ k ∧ k < (i : Int) := by
  obtain ⟨l, hl, hm⟩ := (h.iff_ k s).1 hk
  exact (h.nd s l hl).2.2 k hm
theorem On.fresh {i sz : Nat} {qs : AF} {wm : WF} (h : On i sz qs wm) : wm (i : Int) = none := by
  cases hk : wm (i : Int) with
  | none => rfl
  | some s => have := h.dom hk; omega
theorem On.ask {i sz : Nat} {qs : AF} {wm : WF} (h : On i sz qs wm) (h64 : sz ≠ 64) (s : ByteArray) : On (i + 1) (sz + 1) (upd qs s (some ((qs s).getD [] ++ [(i : Int)]))) (updI wm i (some s)) := by
  have hf := h.fresh
  refine ⟨?_, by have := h.few; omega, fun k s' => ?_, fun s' l hl => ?_⟩
  · have h1 := (h.tot.set_ s (some ((qs s).getD [] ++ [(i : Int)]))).1
    have h2 := (h.tot.set_ s none).2
    have e : sz - lenQ qs s + ((some ((qs s).getD [] ++ [(i : Int)])).getD []).length = sz + 1 := by
      show sz - lenQ qs s + ((qs s).getD [] ++ [(i : Int)]).length = sz + 1
      rw [List.length_append, List.length_singleton]
      unfold lenQ at h2 ⊢
      omega
    rwa [e] at h1
  · by_cases e : k = (i : Int)
    · subst e
      rw [updI_same]
      constructor
      · intro hk
        cases hk
        exact ⟨_, upd_same _ _ _, by simp⟩
      · rintro ⟨l, hl, hm⟩
        by_cases e : s' = s
        · rw [e]
        · rw [upd_other _ e] at hl
          have := (h.nd s' l hl).2.2 _ hm
          omega
    · rw [updI_other _ e, h.iff_ k s']
      by_cases e' : s' = s
      · subst e'
        rw [upd_same]
        constructor
        · rintro ⟨l, hl, hm⟩
          exact ⟨_, rfl, by rw [hl]; exact List.mem_append_left _ hm⟩
        · rintro ⟨l, hl, hm⟩
          cases hl
          rcases List.mem_append.1 hm with hm | hm
          · cases hq : qs s' with
            | none => rw [hq] at hm; cases hm
            | some l => rw [hq] at hm; exact ⟨l, rfl, hm⟩
          · exact absurd (List.mem_singleton.1 hm) e
      · rw [upd_other _ e']
  · by_cases e' : s' = s
    · subst e'
      rw [upd_same] at hl
      cases hl
      cases hq : qs s' with
      | none => exact ⟨by simp, by simp, fun k hk => by
        have hk2 : k = (i : Int) := by simpa using hk
        omega⟩
      | some l =>
        obtain ⟨h1, h2, h3⟩ := h.nd s' l hq
        refine ⟨?_, by simp, fun k hk => ?_⟩
        · rw [Option.getD_some, List.nodup_append]
          exact ⟨h1, by simp, fun a ha b hb e => by
            have := h3 a ha
            rw [List.mem_singleton.1 hb] at e
            omega⟩
        · rcases List.mem_append.1 hk with hk | hk
          · have := h3 k hk; omega
          · rw [List.mem_singleton.1 hk]; omega
    · rw [upd_other _ e'] at hl
      obtain ⟨h1, h2, h3⟩ := h.nd s' l hl
      exact ⟨h1, h2, fun k hk => by have := h3 k hk; omega⟩
/-- The waits, but for those of a list. -/
def butW (wm : WF) (l : List Int) : WF := fun k => if k ∈ l then none else wm k
theorem butW_nil (wm : WF) : butW wm [] = wm := by funext k; simp [butW]
theorem butW_snoc (wm : WF) (l : List Int) {n : Nat} (hn : n < l.length) : butW wm (l.take (n + 1)) = updI (butW wm (l.take n)) l[n] none := by
  funext k
  have hm : k ∈ l.take (n + 1) ↔ k ∈ l.take n ∨ k = l[n] := by rw [List.take_succ_eq_append_getElem hn, List.mem_append, List.mem_singleton]
  unfold butW updI
  by_cases e : k = l[n]
  · rw [if_pos (hm.2 (.inr e)), if_pos e]
  · rw [if_neg e]
    show _ = if k ∈ l.take n then none else wm k
    by_cases e2 : k ∈ l.take n
    · rw [if_pos (hm.2 (.inl e2)), if_pos e2]
    · rw [if_neg fun h => (hm.1 h).elim e2 e, if_neg e2]
theorem butW_at {wm : WF} {l : List Int} (hd : l.Nodup) {n : Nat} (hn : n < l.length) : butW wm (l.take n) l[n] = wm l[n] := by
  unfold butW
  rw [if_neg fun h => by
    obtain ⟨i, hi, e⟩ := List.mem_take_iff_getElem.1 h
    exact (List.pairwise_iff_getElem.1 hd) i n (by omega) hn (by omega) e]
theorem On.told {i sz : Nat} {qs : AF} {wm : WF} (h : On i sz qs wm) {s : ByteArray} {l : List Int} (hs : qs s = some l) : On i (sz - l.length) (upd qs s none) (butW wm l) ∧ l.length ≤ sz := by
  have h1 := h.tot.set_ s none
  have hl : lenQ qs s = l.length := by unfold lenQ; rw [hs]; rfl
  rw [hl] at h1
  refine ⟨⟨h1.1, by have := h.few; omega, fun k s' => ?_, fun s' l' hl' => h.nd s' l' (upd_none hl').2⟩, h1.2⟩
  unfold butW
  by_cases hk : k ∈ l
  · rw [if_pos hk]
    constructor
    · intro h; cases h
    · rintro ⟨l', hl', hm⟩
      obtain ⟨hne, hl'⟩ := upd_none hl'
      have e1 := (h.iff_ k s').2 ⟨l', hl', hm⟩
      have e2 := (h.iff_ k s).2 ⟨l, hs, hk⟩
      rw [e1] at e2
      exact absurd (Option.some.inj e2) hne
  · rw [if_neg hk, h.iff_ k s']
    constructor
    · rintro ⟨l', hl', hm⟩
      by_cases e : s' = s
      · subst e
        rw [hs] at hl'
        cases hl'
        exact absurd hm hk
      · exact ⟨l', by rw [upd_other _ e]; exact hl', hm⟩
    · rintro ⟨l', hl', hm⟩
      exact ⟨l', (upd_none hl').2, hm⟩
theorem filter_one {x : Int} : ∀ {l : List Int}, l.Nodup → x ∈ l → (l.filter (stayI x)).length + 1 = l.length
  | [], _, h => by cases h
  | y :: r, hn, h => by
    rw [List.nodup_cons] at hn
    by_cases e : y = x
    · subst e
      have h1 : r.filter (stayI y) = r := List.filter_eq_self.2 fun k hk => by
        have : k ≠ y := fun e => hn.1 (e ▸ hk)
        simp [stayI, this]
      have h2 : stayI y y = false := by simp [stayI]
      rw [List.filter_cons, h2, h1]
      simp
    · have h1 := filter_one hn.2 ((List.mem_cons.1 h).resolve_left (fun e2 => e e2.symm))
      have h2 : stayI x y = true := by simp [stayI, e]
      rw [List.filter_cons, h2, if_pos rfl, List.length_cons, List.length_cons, h1]
theorem On.drop {i sz n' : Nat} {qs : AF} {wm : WF} (h : On i sz qs wm) (k : Int) (hn : Tot (dropQ k qs) n') : On i (sz - (if (wm k).isSome then 1 else 0)) (dropQ k qs) (updI wm k none) ∧ decide (n' < sz) = (wm k).isSome := by
  have hnd : ∀ s l, dropQ k qs s = some l → ∃ l0, qs s = some l0 ∧ l = l0.filter (stayI k) ∧ l ≠ [] := fun s l hl => by
    unfold dropQ at hl
    cases hq : qs s with
    | none => rw [hq] at hl; cases hl
    | some l0 =>
      rw [hq] at hl
      unfold dropL at hl
      simp only at hl
      split at hl
      · cases hl
      · rename_i hne
        cases hl
        exact ⟨l0, rfl, rfl, hne⟩
  have hcnt : n' = sz - (if (wm k).isSome then 1 else 0) ∧ ((wm k).isSome = true → 1 ≤ sz) := by
    cases hk : wm k with
    | none =>
      have e : dropQ k qs = qs := by
        funext s
        unfold dropQ
        cases hq : qs s with
        | none => rfl
        | some l =>
          have h1 : l.filter (stayI k) = l := List.filter_eq_self.2 fun j hj => by
            have : j ≠ k := fun e => by
              have := (h.iff_ k s).2 ⟨l, hq, e ▸ hj⟩
              rw [hk] at this
              cases this
            simp [stayI, this]
          unfold dropL
          simp only [h1]
          rw [if_neg (h.nd s l hq).2.1]
      rw [e] at hn
      refine ⟨?_, fun h => by cases h⟩
      rw [hn.fun h.tot]
      rfl
    | some s =>
      obtain ⟨l, hl, hm⟩ := (h.iff_ k s).1 hk
      have e : dropQ k qs = upd qs s (dropL k (some l)) := by
        funext s'
        by_cases es : s' = s
        · subst es
          rw [upd_same]
          unfold dropQ
          rw [hl]
        · rw [upd_other _ es]
          unfold dropQ
          cases hq : qs s' with
          | none => rfl
          | some l' =>
            have h1 : l'.filter (stayI k) = l' := List.filter_eq_self.2 fun j hj => by
              have : j ≠ k := fun e => by
                have := (h.iff_ k s').2 ⟨l', hq, e ▸ hj⟩
                rw [hk] at this
                exact es (Option.some.inj this).symm
              simp [stayI, this]
            unfold dropL
            simp only [h1]
            rw [if_neg (h.nd s' l' hq).2.1]
      rw [e] at hn
      have h1 := h.tot.set_ s (dropL k (some l))
      have h2 := hn.fun h1.1
      have h3 : lenQ qs s = l.length := by unfold lenQ; rw [hl]; rfl
      have h4 := filter_one (h.nd s l hl).1 hm
      have h5 : ((dropL k (some l)).getD []).length = (l.filter (stayI k)).length := by
        unfold dropL
        simp only
        split
        · rename_i he; rw [he]; rfl
        · rfl
      have h6 := h1.2
      rw [h3] at h2 h6
      rw [h5] at h2
      simp only [Option.isSome_some, if_true]
      exact ⟨by omega, fun _ => by omega⟩
  refine ⟨⟨hcnt.1 ▸ hn, by have := h.few; omega, fun j s => ?_, fun s l hl => ?_⟩, ?_⟩
  · by_cases e : j = k
    · subst e
      rw [updI_same]
      constructor
      · intro h; cases h
      · rintro ⟨l, hl, hm⟩
        obtain ⟨l0, _, rfl, _⟩ := hnd s l hl
        have := (List.mem_filter.1 hm).2
        simp [stayI] at this
    · rw [updI_other _ e, h.iff_ j s]
      constructor
      · rintro ⟨l, hl, hm⟩
        have hm' : j ∈ l.filter (stayI k) := List.mem_filter.2 ⟨hm, by simp [stayI, e]⟩
        refine ⟨l.filter (stayI k), ?_, hm'⟩
        unfold dropQ dropL
        rw [hl]
        simp only
        rw [if_neg fun e => by rw [e] at hm'; cases hm']
      · rintro ⟨l, hl, hm⟩
        obtain ⟨l0, h0, rfl, _⟩ := hnd s l hl
        exact ⟨l0, h0, (List.mem_filter.1 hm).1⟩
  · obtain ⟨l0, h0, rfl, hne⟩ := hnd s l hl
    obtain ⟨h1, h2, h3⟩ := h.nd s l0 h0
    exact ⟨h1.filter _, hne, fun j hj => h3 j (List.mem_filter.1 hj).1⟩
  · rw [hcnt.1]
    cases hk : (wm k).isSome with
    | false => simp
    | true =>
      have := hcnt.2 hk
      simp only [if_true]
      exact decide_eq_true (by omega)
theorem On.all {i sz : Nat} {wm : WF} {qs : AF} (h : On i sz qs wm) (hq : ∀ k, qs k = none) : sz = 0 := by
  have e : qs = fun _ => none := funext hq
  have := h.tot
  rw [e] at this
  exact this.fun Tot.none_
theorem verd_le (kn : KF) (text sc : ByteArray) : verd kn text sc ≠ 5 ∧ verd kn text sc ≠ 0 := by
  unfold verd
  split
  · exact ⟨by decide, by decide⟩
  · split
    · unfold vd
      split
      · exact ⟨by decide, by decide⟩
      · split <;> exact ⟨by decide, by decide⟩
    · exact ⟨by decide, by decide⟩
section
variable {B mw N p i sz : Nat} {kn : KF} {qs : AF} {wm : WF} {w0 w w' : World}
theorem La.turn (h : La B (fun j => j = mw) N p 0 kn qs w0 w) (hB : B ≤ mw) (g : w.grownBy w' (some mw)) (hm : ∃ es cl, w.heap[mw]? = some (.map es cl)) : La B (fun j => j = mw) N p 0 kn qs w0 w' := by
  obtain ⟨es, cl, hb⟩ := hm
  refine ⟨h.da.st (St.grown g fun j hj => by cases hj; exact .inr ⟨fun e => e.2 rfl, _, hb, trivial⟩), ⟨g.os.trans h.low.os, g.tape.trans h.low.tape, g.output.trans h.low.output, Nat.le_trans h.low.size g.size, fun j hj => (g.block j (Nat.lt_of_lt_of_le hj h.size) (fun e => by cases e; omega)).trans (h.low.block j hj)⟩, Nat.le_trans h.size g.size, fun j hj => Nat.lt_of_lt_of_le (h.own j hj) g.size⟩
theorem k3_turn (g : w.grownBy w' (some mw)) (hm : ∃ es cl, w.heap[mw]? = some (.map es cl)) : K3 w w' := K3.grown g fun j hj => by
  obtain ⟨es, cl, hb⟩ := hm
  cases hj
  exact .inr ⟨_, hb, fun cs e => by cases e⟩
theorem ls_turn {base : Nat} {v : Value} {ss : List ByteArray} (h : Ls base w v ss) (g : w.grownBy w' (some mw)) (hm : ∃ es cl, w.heap[mw]? = some (.map es cl)) : Ls base w' v ss := by
  obtain ⟨es, cl, hb⟩ := hm
  exact Ls.st (F := fun _ => False) h (St.grown g fun j hj => by cases hj; exact .inr ⟨fun e => e, _, hb, trivial⟩)
theorem at_turn {b : Nat} {cs : Array Value} {t : TypeId} (h : Blk.At b cs t w) (g : w.grownBy w' (some mw)) (hm : ∃ es cl, w.heap[mw]? = some (.map es cl)) : Blk.At b cs t w' := (g.block b h.lt fun e => by
  obtain ⟨es, cl, hb⟩ := hm
  have h1 := h
  unfold Blk.At at h1
  cases e
  rw [hb] at h1
  cases h1).trans h
theorem l00 : ltr 0 0 = 0 := by decide
theorem oc_check (hL : La B (fun j => j = mw) N p 0 kn qs w0 w) (hW : WA mw sz wm w) (hI : Inv i N kn qs) (hO : On i sz qs wm) (hi : i ≤ 100) {text : ByteArray} (hs : text.size ≤ maxLen) (s2 : ByteArray) :
    Calls Try.prog 15 #[.pointer (some ⟨p, 0, none⟩), .int .i64 0, .string text, .string s2, .int .i64 i] w fun e w' => ∃ (v y : Int) (N' : Nat) (kn' : KF) (qs' : AF), e = .returned (.tuple #[.int .i64 v, .int .i64 y]) ∧ Ku (fun j => B ≤ j ∧ ¬ j = mw) w w' ∧ (La B (fun j => j = mw) N' p 0 kn' qs' w0 w' ∧ WA mw sz wm w' ∧ Inv (i + 1) N' kn' qs') ∧
      ((y = 0 ∧ (v = 4 ∨ v = 5) ∧ sz < 64 ∧ On (i + 1) (sz + 1) qs' (updI wm i (some text))) ∨ (y = 0 ∧ v ≠ 4 ∧ v ≠ 5 ∧ On (i + 1) sz qs' wm) ∨ (y = 5 ∧ sz = 64 ∧ On (i + 1) sz qs' wm)) := by
  obtain ⟨n, h1, h2, h3, h4⟩ := inv_tot hI hi
  obtain rfl : n = sz := h1.fun hO.tot
  by_cases hv : verd (expd (ltr 0 0) kn) text s2 = 4
  · by_cases h64 : n = 64
    · have hc := p_Check1.calls hL.da (h64 ▸ h1) 0 hs s2 i hv
      rw [l00] at hc
      exact hc.mono fun e w' ⟨e1, e2, e3⟩ => ⟨_, _, _, _, _, e1, e3, ⟨hL.next0 e2 e3, hW.ku e3 (fun e => e.2 rfl), (hI.expd _).up⟩, .inr (.inr ⟨rfl, h64, hO.up⟩)⟩
    · have hc := p_Check2.calls hL.da h1 h64 h2 h3 0 hs s2 i hv
      rw [l00] at hc hv
      have hf := hO.few
      exact hc.mono fun e w' ⟨e1, e2, e3⟩ => ⟨_, _, _, _, _, e1, e3, ⟨hL.next e2 e3, hW.ku e3 (fun e => e.2 rfl), (hI.expd _).check hv i⟩, .inl ⟨rfl, by split <;> simp, by omega, hO.ask h64 text⟩⟩
  · have hc := p_Check0.calls hL.da 0 hs s2 i hv
    rw [l00] at hc hv
    exact hc.mono fun e w' ⟨e1, e2, e3⟩ => ⟨_, _, _, _, _, e1, e3, ⟨hL.next0 e2 e3, hW.ku e3 (fun e => e.2 rfl), (hI.expd _).up⟩, .inr (.inl ⟨rfl, hv, (verd_le _ _ _).1, hO.up⟩)⟩
/-- What is told of a text, as the law goes through it. -/
structure Tl (B mw p i : Nat) (s : ByteArray) (w0 : World) (N sz : Nat) (kn : KF) (qs : AF) (wm : WF) (v : Value) (l : List Int) (w' : World) : Prop where
  la : La B (fun j => j = mw) (N + 1) p 0 kn (upd qs s none) w0 w'
  wa : WA mw sz wm w'
  inv : Inv (i + 1) (N + 1) kn (upd qs s none)
  row : Is w' (fun _ => True) v l
  nd : l.Nodup ∧ l ≠ [] ∧ ∀ k ∈ l, (0 ≤ k ∧ k < 1000) ∧ wm k = some s
  le : l.length ≤ sz
  on : On (i + 1) (sz - l.length) (upd qs s none) (butW wm l)
theorem oc_told1 (hL : La B (fun j => j = mw) N p 0 kn qs w0 w) (hW : WA mw sz wm w) (hI : Inv i N kn qs) (hO : On i sz qs wm) (hi : i ≤ 200) {text : ByteArray} (hs : text.size ≤ maxLen) (ok : Bool) {sc : ByteArray} (hsc : sc.size ≤ 100000) (left : Int) {l : List Int} (hq : qs text = some l) :
    Calls Try.prog 11 #[.pointer (some ⟨p, 0, none⟩), .int .i64 0, .string text, .bool ok, .string sc, .int .i64 left] w fun e w' => ∃ (v : Value) (kn' : KF), e = .returned (.tuple #[v, .int .i64 0]) ∧ Ku (fun j => B ≤ j ∧ ¬ j = mw) w w' ∧ Tl B mw p i text w0 N sz kn' qs wm v l w' := by
  have hN := hI.nN
  have hc := p_Told1.calls hL.da (by omega) 0 hs ok hsc left hq (by rw [l00]; decide)
  rw [l00] at hc
  obtain ⟨h1, h2⟩ := hO.told hq
  obtain ⟨h3, h4, h5⟩ := hO.nd _ _ hq
  refine hc.mono fun e w' ⟨v, e1, e0, e2, e3⟩ => ⟨v, _, e1, e3, hL.next0 e2 e3, hW.ku e3 (fun e => e.2 rfl), (hI.expd _).told _ _ _, Kd.R_mono e0 fun _ _ => trivial, ⟨h3, h4, fun k hk => ⟨?_, (hO.iff_ k text).2 ⟨l, hq, hk⟩⟩⟩, h2, h1.up⟩
  have := h5 k hk
  omega
theorem oc_drop (hL : La B (fun j => j = mw) N p 0 kn qs w0 w) (hW : WA mw sz wm w) (hI : Inv i N kn qs) (hO : On i sz qs wm) (hi : i ≤ 100) (k : Int) :
    Calls Try.prog 14 #[.pointer (some ⟨p, 0, none⟩), .int .i64 k] w fun e w' => e = .returned (.bool (wm k).isSome) ∧ Ku (fun j => B ≤ j ∧ ¬ j = mw) w w' ∧ (La B (fun j => j = mw) N p 0 kn (dropQ k qs) w0 w' ∧ WA mw sz wm w' ∧ Inv (i + 1) N kn (dropQ k qs)) ∧ On (i + 1) (sz - (if (wm k).isSome then 1 else 0)) (dropQ k qs) (updI wm k none) := by
  obtain ⟨n, h1, h2, h3, h4⟩ := inv_tot hI hi
  obtain rfl : n = sz := h1.fun hO.tot
  refine (p_Drop.calls hL.da h1 h2 h3 k).mono fun e w' ⟨n', e1, e2, e3, e4⟩ => ?_
  obtain ⟨h5, h6⟩ := hO.drop k e2
  exact ⟨by rw [e1, h6], e4, ⟨hL.next0 e3 e4, hW.ku e4 (fun e => e.2 rfl), (hI.drop k).up⟩, h5.up⟩
/-- Behind n of a told list. -/
structure Tn (B mw p i : Nat) (s : ByteArray) (w0 : World) (N sz : Nat) (kn : KF) (qs : AF) (wm : WF) (v : Value) (l : List Int) (n : Nat) (w : World) : Prop where
  la : La B (fun j => j = mw) (N + 1) p 0 kn (upd qs s none) w0 w
  wa : WA mw (sz - n) (butW wm (l.take n)) w
  row : Is w (fun _ => True) v l
theorem Tl.start {s : ByteArray} {v : Value} {l : List Int} (h : Tl B mw p i s w0 N sz kn qs wm v l w) : Tn B mw p i s w0 N sz kn qs wm v l 0 w := ⟨h.la, by rw [List.take_zero, butW_nil]; exact h.wa, h.row⟩
theorem Tn.step {s : ByteArray} {v : Value} {l : List Int} {n : Nat} {D : DataW Value} (h : Tn B mw p i s w0 N sz kn qs wm v l n w) (hB : B ≤ mw) (hn : n < l.length) (hd : l.Nodup) (hk : wm l[n] = some s) (hD : Wm mw (sz - n) (butW wm (l.take n)) D w) (ho : w'.ownsMap Try.prog 3 RV mw 1000 (D.del (il l[n]))) (g : w.grownBy w' (some mw)) : Tn B mw p i s w0 N sz kn qs wm v l (n + 1) w' := by
  refine ⟨h.la.turn hB g h.wa.map, ?_, h.row.k3 (k3_turn g h.wa.map)⟩
  have h1 := hD.del ho
  rw [butW_at hd hn, hk] at h1
  rw [butW_snoc wm l hn]
  have e : sz - n - (if (some s : Option ByteArray).isSome = true then 1 else 0) = sz - (n + 1) := by
    simp only [Option.isSome_some, if_true]
    omega
  rwa [e] at h1
end
/-- Behind i rounds of the law. -/
def Oc (B mw p i : Nat) (w0 w : World) : Prop := ∃ N sz kn qs wm, La B (fun j => j = mw) N p 0 kn qs w0 w ∧ WA mw sz wm w ∧ Inv i N kn qs ∧ On i sz qs wm
theorem DA.tighten {F : Nat → Prop} {N p : Nat} {t : Int} {kn : KF} {qs : AF} {w : World} (h : DA F N p t kn qs w) : DA (fun i => F i ∧ i < w.heap.size) N p t kn qs w := by
  obtain ⟨mk, ma, sv, lv, Dk, Da, h⟩ := h
  exact .of h.tight
theorem La.priv {B N p : Nat} {t : Int} {kn : KF} {qs : AF} {w0 w : World} (h : La B (fun _ => False) N p t kn qs w0 w) : La B (fun j => j = w.heap.size) N p t kn qs w0 (w.alloc (.map #[] 0)) := by
  have hb := below_alloc (Below.refl _ w) (.map #[] 0)
  exact ⟨(h.da.tighten.mono fun i hi => ⟨hi.1.1, fun e => by have := hi.2; omega⟩).below hb, h.low.trans (hb.mono h.size), Nat.le_trans h.size hb.size, fun i hi => by rw [hi, size_alloc]; omega⟩
theorem oc_le {sz : Nat} (h : sz ≤ 64) : ¬ (64 : Int) < (sz : Int) := by omega
theorem oc_k {k : Int} {n : Nat} (h : ¬ (k < 0 ∨ (n : Int) < k)) : 0 ≤ k ∧ k ≤ (n : Int) := by omega
theorem oc_k1 {k : Int} {n : Nat} (h : 0 ≤ k ∧ k ≤ (n : Int)) (hn : n ≤ 99) : 0 ≤ k ∧ k < 1000 := by omega
theorem on_key {n : Nat} (h : n ≤ 99) : 0 ≤ (n : Int) ∧ (n : Int) < 1000 := by omega
theorem on_ne {l : List Int} (h : l ≠ []) : 0 < (l.length : Int) := by
  have := List.length_pos_iff.2 h
  omega
theorem on_ne2 {l : List Int} (h : l ≠ []) : ((l.length : Int) == 0) = false := by
  rw [beq_eq_false_iff_ne]
  have := List.length_pos_iff.2 h
  omega
theorem on_meas {n m : Nat} (h : n + 1 ≤ m) : m - (intOf (Value.int .i64 ((n + 1 : Nat) : Int))).toNat < m - (intOf (Value.int .i64 (n : Int))).toNat := by
  simp [intOf]
  omega
theorem on_meas2 {n m : Nat} (h : n < m) : m - (intOf (Value.int .i64 ((n + 1 : Nat) : Int))).toNat < m - (intOf (Value.int .i64 (n : Int))).toNat := on_meas h
/-- What is still asked for, behind some texts told. -/
def telQ (qs : AF) (ks : List ByteArray) : AF := fun k => if inU ks k then none else qs k
theorem telQ_nil (qs : AF) (ks : List ByteArray) : qs = telQ qs (ks.take 0) := by
  funext k
  simp [telQ, inU]
theorem telQ_step {qs : AF} {ks : List ByteArray} {n : Nat} (hn : n < ks.length) : upd (telQ qs (ks.take n)) ks[n] none = telQ qs (ks.take (n + 1)) := by
  funext k
  unfold telQ
  rw [inU_snoc ks hn]
  by_cases e : k = ks[n]
  · rw [e, upd_same]; simp
  · rw [upd_other _ e]; simp [e]
theorem telQ_fresh {qs : AF} {ks : List ByteArray} (hnd : ks.Nodup) {n : Nat} (hn : n < ks.length) : telQ qs (ks.take n) ks[n] = qs ks[n] := by
  unfold telQ
  rw [if_neg fun h => by
    obtain ⟨i, hi, e⟩ := List.mem_take_iff_getElem.1 (inU_iff.1 h)
    exact (List.pairwise_iff_getElem.1 hnd) i n (by omega) hn (by omega) e]
theorem telQ_all {qs : AF} {ks : List ByteArray} (h : ∀ k, k ∈ ks ↔ (qs k).isSome = true) (k : ByteArray) : telQ qs ks k = none := by
  unfold telQ
  split
  · rfl
  · rename_i hn
    cases hq : qs k with
    | none => rfl
    | some l => exact absurd (inU_iff.2 ((h k).2 (by rw [hq]; rfl))) hn
/-- Behind j of the texts that are asked for. -/
def Ft (B mw p m j : Nat) (qs : AF) (ks : List ByteArray) (w0 w : World) : Prop := ∃ N sz kn qs' wm, La B (fun j => j = mw) N p 0 kn qs' w0 w ∧ WA mw sz wm w ∧ Inv (m + j) N kn qs' ∧ On (m + j) sz qs' wm ∧ qs' = telQ qs (ks.take j)
theorem oc_n {N m : Nat} (h : N ≤ m) (hm : m ≤ 100) : N ≤ 100000 := by omega
theorem oc_ks {N m k : Nat} (h : N ≤ m ∧ m ≤ 100) (hk : k ≤ N) : k ≤ 100 := by omega
theorem oc_200 {m j k : Nat} (h : m ≤ 100) (hk : k ≤ 100) (hj : j < k) : m + j ≤ 200 := by omega
set_option maxHeartbeats 16000000 in
theorem law_Once.calls {w : World} {A : Option Addr} {c : Nat} {l : List Ac} (hC : dA.C w A l.length l) (hc : l.length ≤ c) (hG : ∀ a ∈ l, (0 ≤ a.kind ∧ a.kind < 256) ∧ a.tok.size ≤ maxLen) :
    Calls Try.prog 4 #[.slice A l.length c] w fun e w' => e = .returned (.bool true) ∧ Below w.heap.size w w' := by
  have hmm := @run_makeMap Try.prog
  have hN := p_New.calls w 0
  obtain ⟨B, hBe⟩ : ∃ B, B = w.heap.size := ⟨_, rfl⟩
  have HBE := Aside0.mk hBe
  have HC := Aside0.mk hC
  have HG := Aside0.mk hG
  have HCC := Aside0.mk hc
  have HS := Aside0.mk (law_short.calls (A := A) hc)
  obtain ⟨m, hm⟩ : ∃ m, m = sh l.length := ⟨_, rfl⟩
  have HM := Aside0.mk (show m ≤ l.length ∧ m ≤ 100 from by rw [hm]; unfold sh; split <;> omega)
  have HMS := Aside0.mk hm
  rw [← hm] at HS
  clear hBe hC hG hc hm
  go_enter Try.func4, Try.ntmps4
  go_wp2_with fail
  refine hN.mono ?_
  rintro e w1 ⟨rfl, hP, hb⟩
  have hLa := La.new hP hb
  rw [← HBE.out] at hLa ⊢
  have HL1 := Aside0.mk hLa
  clear hP hb hN hLa
  go_wp2_with fail
  refine (law_far.calls (Kd.C_below HC.out (HBE.out ▸ HL1.out.low)) HCC.out).mono ?_
  rintro e w2 ⟨bf, rfl, hb, hsm⟩
  have HL2 := Aside0.mk (HL1.out.below hb)
  rw [← HMS.out] at hsm
  have HSM := Aside0.mk hsm
  clear hb hsm HL1
  cases bf
  case true =>
    go_wp2_with fail
    refine (law_alive.calls _).mono ?_
    rintro e w3 ⟨rfl, hb⟩
    have HB3 := Aside0.mk (HL2.out.below hb).low
    clear hb
    go_wp2_with fail
    go_ret
    exact ⟨rfl, HBE.out ▸ HB3.out⟩
  have HSN := Aside0.mk (show Small (l.take m) by first | exact HSM.out rfl | exact HSM.out trivial)
  have hpr := HL2.out.priv
  have hwa := WA.made w2
  obtain ⟨mw, hmw⟩ : ∃ mw, mw = w2.heap.size := ⟨_, rfl⟩
  obtain ⟨W, hW⟩ : ∃ W, W = w2.alloc (.map #[] 0) := ⟨_, rfl⟩
  have HB := Aside0.mk (show B ≤ mw from hmw ▸ HL2.out.size)
  rw [← hmw] at hpr hwa
  rw [← hW] at hpr hwa
  have HR0 := Aside0.mk (show Oc B mw (B + 2) 0 w W from ⟨_, _, _, _, _, hpr, hwa, ⟨Nat.le_refl _, ⟨0, Tot.none_, Nat.le_refl _⟩, fun k l h => by (cases h)⟩, On.start⟩)
  clear HSM hpr hwa
  replace hmw := hmw.symm
  replace hW := hW.symm
  go_wp2_with fail
  refine (HS.out _).mono ?_
  rintro e w3 ⟨rfl, rfl⟩
  clear HS HL2
  go_wp2_with fail
  clear hmw hW
  go_loopw [40] (fun j wr => ∃ n : Nat, n ≤ m ∧ j = .int .i64 n ∧ Aside0 (Oc B mw (B + 2) n w wr)) (fun j _ => m - (intOf j).toNat)
  case atStart => exact ⟨0, Nat.zero_le _, rfl, HR0⟩
  case round =>
    clear HR0
    obtain ⟨n, hn, rfl, HR⟩ := hrel
    obtain ⟨N, sz, kn, qs, wm, hL, hWA, hI, hO⟩ := HR.out
    by_cases hlt : n < m
    · have hl : n < l.length := by have := HM.out; omega
      obtain ⟨ad, rfl, hx⟩ := script_at HC.out hl
      have hmem : l[n] ∈ l := List.getElem_mem hl
      have hg := HG.out _ hmem
      have hsm := HSN.out l[n] (List.mem_take_iff_getElem.2 ⟨n, by have := HM.out; omega, rfl⟩)
      have hHeap : Below w.heap.size w wr := HBE.out ▸ hL.low
      generalize l[n] = a at hx hg hsm
      obtain ⟨X, hX⟩ : ∃ X, X = ad.add (n * 7) := ⟨_, rfl⟩
      have hXe : ad.add (n * 7) = X := hX.symm
      rw [hXe] at hx
      clear hX hmem
      have hx0 : wr.cell? X = some (.int .u8 a.kind) := pw_cell_below hHeap (hx 0 _ rfl)
      have hx1 : wr.cell? ⟨X.block, X.off + 1, none⟩ = some (.int .i64 a.later) := pw_cell_below hHeap (hx 1 _ rfl)
      have hx2 : wr.cell? ⟨X.block, X.off + 2, none⟩ = some (.string a.tok) := pw_cell_below hHeap (hx 2 _ rfl)
      have hx3 : wr.cell? ⟨X.block, X.off + 3, none⟩ = some (.string a.sc) := pw_cell_below hHeap (hx 3 _ rfl)
      have hx4 : wr.cell? ⟨X.block, X.off + 4, none⟩ = some (.bool a.good) := pw_cell_below hHeap (hx 4 _ rfl)
      have hx5 : wr.cell? ⟨X.block, X.off + 5, none⟩ = some (.int .i64 a.left) := pw_cell_below hHeap (hx 5 _ rfl)
      have hx6 : wr.cell? ⟨X.block, X.off + 6, none⟩ = some (.int .i64 a.n) := pw_cell_below hHeap (hx 6 _ rfl)
      have en : wrap64 ((n : Int) + 1) = ((n + 1 : Nat) : Int) := w64n (by have := HM.out; omega)
      have hba := below_alloc (Below.refl _ wr) (.cells (av a) 29)
      have hat := Blk.At.new wr (av a) 29
      obtain ⟨g, hge⟩ : ∃ g, g = wr.heap.size := ⟨_, rfl⟩
      obtain ⟨Wb, hWb⟩ : ∃ Wb, Wb = wr.alloc (.cells (av a) 29) := ⟨_, rfl⟩
      rw [← hge] at hat
      rw [← hWb] at hat hba
      have HACT := Aside0.mk (And.intro hg hsm)
      have HN1 := Aside0.mk (gd_n hlt HM.out)
      have HI := Aside0.mk hI
      have HO := Aside0.mk hO
      have HLb := Aside0.mk (hL.below hba)
      have HWb := Aside0.mk (hWA.below hba)
      have HLd := Aside0.mk (HLb.out.below (below_drew (Below.refl _ _)))
      have HWd := Aside0.mk (HWb.out.below (below_drew (Below.refl _ _)))
      have HATd := Aside0.mk (show Blk.At g (av a) 29 Wb.drew from hat)
      have HNW := Aside0.mk (p_Now.calls HLd.out.da)
      have y0 : Wb.cell? ⟨g, 0, none⟩ = some (.int .u8 a.kind) := hat.cell 0
      have y2 : Wb.cell? ⟨g, 2, none⟩ = some (.string a.tok) := hat.cell 2
      have y3 : Wb.cell? ⟨g, 3, none⟩ = some (.string a.sc) := hat.cell 3
      have y4 : Wb.cell? ⟨g, 4, none⟩ = some (.bool a.good) := hat.cell 4
      have y5 : Wb.cell? ⟨g, 5, none⟩ = some (.int .i64 a.left) := hat.cell 5
      have y6 : Wb.cell? ⟨g, 6, none⟩ = some (.int .i64 a.n) := hat.cell 6
      have htm := tm5 hg.1
      obtain ⟨kd, hkd⟩ : ∃ kd, Int.tmod a.kind 5 = kd := ⟨_, rfl⟩
      rw [hkd] at htm
      have HAT := Aside0.mk hat
      replace hge := hge.symm
      replace hWb := hWb.symm
      clear hx hg hsm hHeap hL hWA hI hO HR hba hat
      rcases htm with rfl | rfl | rfl | rfl | rfl
      · have HCK := Aside0.mk (oc_check HLd.out HWd.out HI.out HO.out (Nat.le_trans HN1.out.2 (by decide)) HACT.out.1.2 a.sc)
        go_wp2_with fail
        refine start_ (n := 14) (S := fun w' => w'.cell? ⟨g, 2, none⟩ = some (.string a.tok) ∧ w'.cell? ⟨g, 3, none⟩ = some (.string a.sc)) (ds := []) #[false, false, false, false, false, false, false, false, false, false, false, false, false, false] (by kernel_rfl) rfl rfl ⟨y2, y3⟩ (fun hHeld => ?_)
        refine pure_ (i := 0) (N := some 49) (v := ?_) (a' := ?_) #[true, false, false, false, false, false, false, false, false, false, false, false, false, false] rfl rfl (by kernel_rfl) (fun _ _ _ h => h) (Or.inl ⟨by rfl, ?_⟩) ?_ ?_
        rotate_left
        · intro w'
          go_simp
          with_reducible rfl
        rotate_left
        · simp only [Act.put, List.setIfInBounds_toArray, List.set_cons_zero, List.set_cons_succ, i64_w, i32_w]
          rfl
        refine pure_ (i := 1) (N := some 50) (v := ?_) (a' := ?_) #[true, true, false, false, false, false, false, false, false, false, false, false, false, false] rfl rfl (by kernel_rfl) (fun _ _ _ h => h) (Or.inl ⟨by rfl, ?_⟩) ?_ ?_
        rotate_left
        · intro w'
          go_simp
          with_reducible rfl
        rotate_left
        · simp only [Act.put, List.setIfInBounds_toArray, List.set_cons_zero, List.set_cons_succ, i64_w, i32_w]
          rfl
        refine pure_ (i := 3) (N := some 52) (v := ?_) (a' := ?_) #[true, true, false, true, false, false, false, false, false, false, false, false, false, false] rfl rfl (by kernel_rfl) (fun _ _ _ h => h) (Or.inl ⟨by rfl, ?_⟩) ?_ ?_
        rotate_left
        · intro w'
          go_simp
          with_reducible rfl
        rotate_left
        · simp only [Act.put, List.setIfInBounds_toArray, List.set_cons_zero, List.set_cons_succ, i64_w, i32_w]
          rfl
        refine pure_ (i := 5) (N := some 54) (v := ?_) (a' := ?_) #[true, true, false, true, false, true, false, false, false, false, false, false, false, false] rfl rfl (by kernel_rfl) (fun _ _ _ h => h) (Or.inl ⟨by rfl, ?_⟩) ?_ ?_
        rotate_left
        · intro w'
          go_simp
          with_reducible rfl
        rotate_left
        · simp only [Act.put, List.setIfInBounds_toArray, List.set_cons_zero, List.set_cons_succ, i64_w, i32_w]
          rfl
        refine pure_ (i := 7) (N := some 56) (v := ?_) (a' := ?_) #[true, true, false, true, false, true, false, true, false, false, false, false, false, false] rfl rfl (by kernel_rfl) (fun _ _ _ h => h) (Or.inl ⟨by rfl, ?_⟩) ?_ ?_
        rotate_left
        · intro w'
          go_simp
          with_reducible rfl
        rotate_left
        · simp only [Act.put, List.setIfInBounds_toArray, List.set_cons_zero, List.set_cons_succ, i64_w, i32_w]
          rfl
        refine take_ (i := 4) (N := some 53) (v := ?_) (a' := ?_) #[true, true, false, true, true, true, false, true, false, false, false, false, false, false] rfl rfl (by kernel_rfl) (fun _ _ _ h => h) (Or.inl ⟨by rfl, ?_⟩) hHeld ?_ ?_
        rotate_left
        · rintro w' ⟨s0, s1⟩
          go_simp
          with_reducible rfl
        rotate_left
        · simp only [Act.put, List.setIfInBounds_toArray, List.set_cons_zero, List.set_cons_succ, i64_w, i32_w]
          rfl
        refine take_ (i := 6) (N := some 55) (v := ?_) (a' := ?_) #[true, true, false, true, true, true, true, true, false, false, false, false, false, false] rfl rfl (by kernel_rfl) (fun _ _ _ h => h) (Or.inl ⟨by rfl, ?_⟩) hHeld ?_ ?_
        rotate_left
        · rintro w' ⟨s0, s1⟩
          go_simp
          with_reducible rfl
        rotate_left
        · simp only [Act.put, List.setIfInBounds_toArray, List.set_cons_zero, List.set_cons_succ, i64_w, i32_w]
          rfl
        refine one_ (i := 2) (N := some 51) #[true, true, true, true, true, true, true, true, false, false, false, false, false, false] rfl rfl (by kernel_rfl) (by decide) (fun K hK => ?_)
        refine goes_ Try.func10 (by kernel_rfl) rfl #[.pointer (some ⟨B + 2, 0, none⟩)] (by rfl) rfl rfl (by simp only [List.map_toArray, List.map_cons, List.map_nil]; rfl) ?_
        with_reducible refine (HNW.out).mono ?_
        rintro e w5 ⟨rfl, rfl⟩
        refine ⟨_, rfl, ?_⟩
        refine hK.out _ _ ⟨y2, y3⟩ (fun hHeld => ?_)
        clear hK K
        refine norm_ (a' := ?_) ?_ ?_
        rotate_left
        · show Act.put _ (some 51) _ = _
          simp only [Act.put, List.setIfInBounds_toArray, List.set_cons_zero, List.set_cons_succ, i64_w, i32_w]
          rfl
        refine one_ (i := 8) (N := some 57) #[true, true, true, true, true, true, true, true, true, false, false, false, false, false] rfl rfl (by kernel_rfl) (by decide) (fun K hK => ?_)
        refine goes_ Try.func15 (by kernel_rfl) rfl #[.pointer (some ⟨B + 2, 0, none⟩), .int .i64 0, .string a.tok, .string a.sc, .int .i64 n] (by rfl) rfl rfl (by simp only [List.map_toArray, List.map_cons, List.map_nil]; rfl) ?_
        with_reducible refine (HCK.out).mono ?_
        rintro e w6 ⟨v, yy, N', kn', qs', rfl, hK_, hL_, hcase_⟩
        refine ⟨_, rfl, ?_⟩
        have hat6 := At.ku HATd.out (by decide) (by decide) hK_
        have z2 : w6.cell? ⟨g, 2, none⟩ = some (.string a.tok) := hat6.cell 2
        have z3 : w6.cell? ⟨g, 3, none⟩ = some (.string a.sc) := hat6.cell 3
        have HL6 := Aside0.mk hL_
        have HC6 := Aside0.mk hcase_
        clear hK_ hL_ hcase_ hat6
        refine hK.out _ _ ⟨z2, z3⟩ (fun hHeld => ?_)
        clear hK K
        refine norm_ (a' := ?_) ?_ ?_
        rotate_left
        · show Act.put _ (some 57) _ = _
          simp only [Act.put, List.setIfInBounds_toArray, List.set_cons_zero, List.set_cons_succ, i64_w, i32_w]
          rfl
        refine pure_ (i := 9) (N := some 48) (v := ?_) (a' := ?_) #[true, true, true, true, true, true, true, true, true, true, false, false, false, false] rfl rfl (by kernel_rfl) (fun _ _ _ h => h) (Or.inl ⟨by rfl, ?_⟩) ?_ ?_
        rotate_left
        · intro w'
          go_simp
          with_reducible rfl
        rotate_left
        · simp only [Act.put, List.setIfInBounds_toArray, List.set_cons_zero, List.set_cons_succ, i64_w, i32_w]
          rfl
        refine pure_ (i := 10) (N := some 58) (v := ?_) (a' := ?_) #[true, true, true, true, true, true, true, true, true, true, true, false, false, false] rfl rfl (by kernel_rfl) (fun _ _ _ h => h) (Or.inl ⟨by rfl, ?_⟩) ?_ ?_
        rotate_left
        · intro w'
          go_simp
          with_reducible rfl
        rotate_left
        · simp only [Act.put, List.setIfInBounds_toArray, List.set_cons_zero, List.set_cons_succ, i64_w, i32_w]
          rfl
        refine pure_ (i := 11) (N := some 59) (v := ?_) (a' := ?_) #[true, true, true, true, true, true, true, true, true, true, true, true, false, false] rfl rfl (by kernel_rfl) (fun _ _ _ h => h) (Or.inl ⟨by rfl, ?_⟩) ?_ ?_
        rotate_left
        · intro w'
          go_simp
          with_reducible rfl
        rotate_left
        · simp only [Act.put, List.setIfInBounds_toArray, List.set_cons_zero, List.set_cons_succ, i64_w, i32_w]
          rfl
        refine pure_ (i := 12) (N := some 16) (v := ?_) (a' := ?_) #[true, true, true, true, true, true, true, true, true, true, true, true, true, false] rfl rfl (by kernel_rfl) (fun _ _ _ h => h) (Or.inl ⟨by rfl, ?_⟩) ?_ ?_
        rotate_left
        · intro w'
          go_simp
          with_reducible rfl
        rotate_left
        · simp only [Act.put, List.setIfInBounds_toArray, List.set_cons_zero, List.set_cons_succ, i64_w, i32_w]
          rfl
        refine pure_ (i := 13) (N := some 17) (v := ?_) (a' := ?_) #[true, true, true, true, true, true, true, true, true, true, true, true, true, true] rfl rfl (by kernel_rfl) (fun _ _ _ h => h) (Or.inl ⟨by rfl, ?_⟩) ?_ ?_
        rotate_left
        · intro w'
          go_simp
          with_reducible rfl
        rotate_left
        · simp only [Act.put, List.setIfInBounds_toArray, List.set_cons_zero, List.set_cons_succ, i64_w, i32_w]
          rfl
        refine done_ (by kernel_rfl) ?_
        rcases HC6.out with ⟨rfl, hv, hlt, hon⟩ | ⟨rfl, hv4, hv5, hon⟩ | ⟨rfl, h64, hon⟩
        · have HLT := Aside0.mk hlt
          have HON := Aside0.mk hon
          clear HC6 hlt hon
          rcases hv with rfl | rfl
          · obtain ⟨D, hD⟩ := HL6.out.2.1
            have HD := Aside0.mk hD
            have hown6 := hD.own
            have HIF := Aside0.mk HL6.out.2.2
            have HOF := HON
            have hle := oc_le HOF.out.few
            clear hD
            go_wp2_with (at_mapUpdate; refine wpList_mapUpdate_own _ rfl _ _ _ 43 rfl 3 9 key3 Try.underlying43 RV mw 1000 D rfl hown6 (by decide) _ _ _ rfl rfl (keyOf3 (on_key HN1.out.2)) (.held (.string a.tok)) [] rfl ?_; intro w7 ho7 hg7; obtain ⟨D7, hD7⟩ := HD.out.put HO.out.fresh (Nat.lt_trans HLT.out (by decide)) ho7; have HDF := Aside0.mk hD7; have HLF := Aside0.mk (HL6.out.1.turn HB.out hg7 (own_block HD.out.own)); have hlen := hD7.own.len Try.underlying43 3; rw [hD7.siz] at hlen; clear ho7 hg7 hown6 hD7)
            rw [en]
            exact ⟨⟨n + 1, HN1.out.1, rfl, ⟨_, _, _, _, _, HLF.out, ⟨_, HDF.out⟩, HIF.out, HOF.out⟩⟩, on_meas HN1.out.1⟩
          · obtain ⟨D, hD⟩ := HL6.out.2.1
            have HD := Aside0.mk hD
            have hown6 := hD.own
            have HIF := Aside0.mk HL6.out.2.2
            have HOF := HON
            have hle := oc_le HOF.out.few
            clear hD
            go_wp2_with (at_mapUpdate; refine wpList_mapUpdate_own _ rfl _ _ _ 43 rfl 3 9 key3 Try.underlying43 RV mw 1000 D rfl hown6 (by decide) _ _ _ rfl rfl (keyOf3 (on_key HN1.out.2)) (.held (.string a.tok)) [] rfl ?_; intro w7 ho7 hg7; obtain ⟨D7, hD7⟩ := HD.out.put HO.out.fresh (Nat.lt_trans HLT.out (by decide)) ho7; have HDF := Aside0.mk hD7; have HLF := Aside0.mk (HL6.out.1.turn HB.out hg7 (own_block HD.out.own)); have hlen := hD7.own.len Try.underlying43 3; rw [hD7.siz] at hlen; clear ho7 hg7 hown6 hD7)
            rw [en]
            exact ⟨⟨n + 1, HN1.out.1, rfl, ⟨_, _, _, _, _, HLF.out, ⟨_, HDF.out⟩, HIF.out, HOF.out⟩⟩, on_meas HN1.out.1⟩
        · have hb4 : (v == 4) = false := by simp [hv4]
          have hb5 : (v == 5) = false := by simp [hv5]
          obtain ⟨D, hD⟩ := HL6.out.2.1
          have HDF := Aside0.mk hD
          have HLF := Aside0.mk HL6.out.1
          have HIF := Aside0.mk HL6.out.2.2
          have HOF := Aside0.mk hon
          clear hD hon hv4 hv5 HC6
          go_wp2_with fail
          have hlen := HDF.out.own.len Try.underlying43 3
          rw [HDF.out.siz] at hlen
          have hle := oc_le HOF.out.few
          go_wp2_with fail
          rw [en]
          exact ⟨⟨n + 1, HN1.out.1, rfl, ⟨_, _, _, _, _, HLF.out, ⟨_, HDF.out⟩, HIF.out, HOF.out⟩⟩, on_meas HN1.out.1⟩
        · obtain ⟨D, hD⟩ := HL6.out.2.1
          have HDF := Aside0.mk hD
          have HLF := Aside0.mk HL6.out.1
          have HIF := Aside0.mk HL6.out.2.2
          have HOF := Aside0.mk hon
          clear hD hon HC6
          subst h64
          have hlen := HDF.out.own.len Try.underlying43 3
          rw [HDF.out.siz] at hlen
          go_wp2_with fail
          rw [en]
          exact ⟨⟨n + 1, HN1.out.1, rfl, ⟨_, _, _, _, _, HLF.out, ⟨_, HDF.out⟩, HIF.out, HOF.out⟩⟩, on_meas HN1.out.1⟩
      · cases hq : qs a.tok with
        | none =>
          have htd := p_Told0.calls HLd.out.da 0 HACT.out.1.2 a.good a.sc a.left hq
          rw [l00] at htd
          have HTD := Aside0.mk htd
          clear htd hq
          go_wp2_with fail
          refine start_ (n := 17) (S := fun w' => w'.cell? ⟨g, 2, none⟩ = some (.string a.tok) ∧ w'.cell? ⟨g, 3, none⟩ = some (.string a.sc) ∧ w'.cell? ⟨g, 4, none⟩ = some (.bool a.good) ∧ w'.cell? ⟨g, 5, none⟩ = some (.int .i64 a.left)) (ds := []) #[false, false, false, false, false, false, false, false, false, false, false, false, false, false, false, false, false] (by kernel_rfl) rfl rfl ⟨y2, y3, y4, y5⟩ (fun hHeld => ?_)
          refine pure_ (i := 0) (N := some 88) (v := ?_) (a' := ?_) #[true, false, false, false, false, false, false, false, false, false, false, false, false, false, false, false, false] rfl rfl (by kernel_rfl) (fun _ _ _ h => h) (Or.inl ⟨by rfl, ?_⟩) ?_ ?_
          rotate_left
          · intro w'
            go_simp
            with_reducible rfl
          rotate_left
          · simp only [Act.put, List.setIfInBounds_toArray, List.set_cons_zero, List.set_cons_succ, i64_w, i32_w]
            rfl
          refine pure_ (i := 1) (N := some 89) (v := ?_) (a' := ?_) #[true, true, false, false, false, false, false, false, false, false, false, false, false, false, false, false, false] rfl rfl (by kernel_rfl) (fun _ _ _ h => h) (Or.inl ⟨by rfl, ?_⟩) ?_ ?_
          rotate_left
          · intro w'
            go_simp
            with_reducible rfl
          rotate_left
          · simp only [Act.put, List.setIfInBounds_toArray, List.set_cons_zero, List.set_cons_succ, i64_w, i32_w]
            rfl
          refine pure_ (i := 3) (N := some 91) (v := ?_) (a' := ?_) #[true, true, false, true, false, false, false, false, false, false, false, false, false, false, false, false, false] rfl rfl (by kernel_rfl) (fun _ _ _ h => h) (Or.inl ⟨by rfl, ?_⟩) ?_ ?_
          rotate_left
          · intro w'
            go_simp
            with_reducible rfl
          rotate_left
          · simp only [Act.put, List.setIfInBounds_toArray, List.set_cons_zero, List.set_cons_succ, i64_w, i32_w]
            rfl
          refine pure_ (i := 5) (N := some 93) (v := ?_) (a' := ?_) #[true, true, false, true, false, true, false, false, false, false, false, false, false, false, false, false, false] rfl rfl (by kernel_rfl) (fun _ _ _ h => h) (Or.inl ⟨by rfl, ?_⟩) ?_ ?_
          rotate_left
          · intro w'
            go_simp
            with_reducible rfl
          rotate_left
          · simp only [Act.put, List.setIfInBounds_toArray, List.set_cons_zero, List.set_cons_succ, i64_w, i32_w]
            rfl
          refine pure_ (i := 7) (N := some 95) (v := ?_) (a' := ?_) #[true, true, false, true, false, true, false, true, false, false, false, false, false, false, false, false, false] rfl rfl (by kernel_rfl) (fun _ _ _ h => h) (Or.inl ⟨by rfl, ?_⟩) ?_ ?_
          rotate_left
          · intro w'
            go_simp
            with_reducible rfl
          rotate_left
          · simp only [Act.put, List.setIfInBounds_toArray, List.set_cons_zero, List.set_cons_succ, i64_w, i32_w]
            rfl
          refine pure_ (i := 9) (N := some 97) (v := ?_) (a' := ?_) #[true, true, false, true, false, true, false, true, false, true, false, false, false, false, false, false, false] rfl rfl (by kernel_rfl) (fun _ _ _ h => h) (Or.inl ⟨by rfl, ?_⟩) ?_ ?_
          rotate_left
          · intro w'
            go_simp
            with_reducible rfl
          rotate_left
          · simp only [Act.put, List.setIfInBounds_toArray, List.set_cons_zero, List.set_cons_succ, i64_w, i32_w]
            rfl
          refine take_ (i := 4) (N := some 92) (v := ?_) (a' := ?_) #[true, true, false, true, true, true, false, true, false, true, false, false, false, false, false, false, false] rfl rfl (by kernel_rfl) (fun _ _ _ h => h) (Or.inl ⟨by rfl, ?_⟩) hHeld ?_ ?_
          rotate_left
          · rintro w' ⟨s0, s1, s2, s3⟩
            go_simp
            with_reducible rfl
          rotate_left
          · simp only [Act.put, List.setIfInBounds_toArray, List.set_cons_zero, List.set_cons_succ, i64_w, i32_w]
            rfl
          refine take_ (i := 6) (N := some 94) (v := ?_) (a' := ?_) #[true, true, false, true, true, true, true, true, false, true, false, false, false, false, false, false, false] rfl rfl (by kernel_rfl) (fun _ _ _ h => h) (Or.inl ⟨by rfl, ?_⟩) hHeld ?_ ?_
          rotate_left
          · rintro w' ⟨s0, s1, s2, s3⟩
            go_simp
            with_reducible rfl
          rotate_left
          · simp only [Act.put, List.setIfInBounds_toArray, List.set_cons_zero, List.set_cons_succ, i64_w, i32_w]
            rfl
          refine take_ (i := 8) (N := some 96) (v := ?_) (a' := ?_) #[true, true, false, true, true, true, true, true, true, true, false, false, false, false, false, false, false] rfl rfl (by kernel_rfl) (fun _ _ _ h => h) (Or.inl ⟨by rfl, ?_⟩) hHeld ?_ ?_
          rotate_left
          · rintro w' ⟨s0, s1, s2, s3⟩
            go_simp
            with_reducible rfl
          rotate_left
          · simp only [Act.put, List.setIfInBounds_toArray, List.set_cons_zero, List.set_cons_succ, i64_w, i32_w]
            rfl
          refine take_ (i := 10) (N := some 98) (v := ?_) (a' := ?_) #[true, true, false, true, true, true, true, true, true, true, true, false, false, false, false, false, false] rfl rfl (by kernel_rfl) (fun _ _ _ h => h) (Or.inl ⟨by rfl, ?_⟩) hHeld ?_ ?_
          rotate_left
          · rintro w' ⟨s0, s1, s2, s3⟩
            go_simp
            with_reducible rfl
          rotate_left
          · simp only [Act.put, List.setIfInBounds_toArray, List.set_cons_zero, List.set_cons_succ, i64_w, i32_w]
            rfl
          refine one_ (i := 2) (N := some 90) #[true, true, true, true, true, true, true, true, true, true, true, false, false, false, false, false, false] rfl rfl (by kernel_rfl) (by decide) (fun K hK => ?_)
          refine goes_ Try.func10 (by kernel_rfl) rfl #[.pointer (some ⟨B + 2, 0, none⟩)] (by rfl) rfl rfl (by simp only [List.map_toArray, List.map_cons, List.map_nil]; rfl) ?_
          with_reducible refine (HNW.out).mono ?_
          rintro e w5 ⟨rfl, rfl⟩
          refine ⟨_, rfl, ?_⟩
          refine hK.out _ _ ⟨y2, y3, y4, y5⟩ (fun hHeld => ?_)
          clear hK K
          refine norm_ (a' := ?_) ?_ ?_
          rotate_left
          · show Act.put _ (some 90) _ = _
            simp only [Act.put, List.setIfInBounds_toArray, List.set_cons_zero, List.set_cons_succ, i64_w, i32_w]
            rfl
          refine one_ (i := 11) (N := some 99) #[true, true, true, true, true, true, true, true, true, true, true, true, false, false, false, false, false] rfl rfl (by kernel_rfl) (by decide) (fun K hK => ?_)
          refine goes_ Try.func11 (by kernel_rfl) rfl #[.pointer (some ⟨B + 2, 0, none⟩), .int .i64 0, .string a.tok, .bool a.good, .string a.sc, .int .i64 a.left] (by rfl) rfl rfl (by simp only [List.map_toArray, List.map_cons, List.map_nil]; rfl) ?_
          with_reducible refine (HTD.out).mono ?_
          rintro e w6 ⟨rfl, hL_, hK_⟩
          refine ⟨_, rfl, ?_⟩
          have hat6 := At.ku HATd.out (by decide) (by decide) hK_
          have z2 : w6.cell? ⟨g, 2, none⟩ = some (.string a.tok) := hat6.cell 2
          have z3 : w6.cell? ⟨g, 3, none⟩ = some (.string a.sc) := hat6.cell 3
          have z4 : w6.cell? ⟨g, 4, none⟩ = some (.bool a.good) := hat6.cell 4
          have z5 : w6.cell? ⟨g, 5, none⟩ = some (.int .i64 a.left) := hat6.cell 5
          have HL6 := Aside0.mk (And.intro hL_ hK_)
          clear hK_ hL_ hat6
          refine hK.out _ _ ⟨z2, z3, z4, z5⟩ (fun hHeld => ?_)
          clear hK K
          refine norm_ (a' := ?_) ?_ ?_
          rotate_left
          · show Act.put _ (some 99) _ = _
            simp only [Act.put, List.setIfInBounds_toArray, List.set_cons_zero, List.set_cons_succ, i64_w, i32_w]
            rfl
          refine pure_ (i := 12) (N := some 87) (v := ?_) (a' := ?_) #[true, true, true, true, true, true, true, true, true, true, true, true, true, false, false, false, false] rfl rfl (by kernel_rfl) (fun _ _ _ h => h) (Or.inl ⟨by rfl, ?_⟩) ?_ ?_
          rotate_left
          · intro w'
            go_simp
            with_reducible rfl
          rotate_left
          · simp only [Act.put, List.setIfInBounds_toArray, List.set_cons_zero, List.set_cons_succ, i64_w, i32_w]
            rfl
          refine pure_ (i := 13) (N := some 100) (v := ?_) (a' := ?_) #[true, true, true, true, true, true, true, true, true, true, true, true, true, true, false, false, false] rfl rfl (by kernel_rfl) (fun _ _ _ h => h) (Or.inl ⟨by rfl, ?_⟩) ?_ ?_
          rotate_left
          · intro w'
            go_simp
            with_reducible rfl
          rotate_left
          · simp only [Act.put, List.setIfInBounds_toArray, List.set_cons_zero, List.set_cons_succ, i64_w, i32_w]
            rfl
          refine pure_ (i := 14) (N := some 101) (v := ?_) (a' := ?_) #[true, true, true, true, true, true, true, true, true, true, true, true, true, true, true, false, false] rfl rfl (by kernel_rfl) (fun _ _ _ h => h) (Or.inl ⟨by rfl, ?_⟩) ?_ ?_
          rotate_left
          · intro w'
            go_simp
            with_reducible rfl
          rotate_left
          · simp only [Act.put, List.setIfInBounds_toArray, List.set_cons_zero, List.set_cons_succ, i64_w, i32_w]
            rfl
          refine pure_ (i := 15) (N := some 7) (v := ?_) (a' := ?_) #[true, true, true, true, true, true, true, true, true, true, true, true, true, true, true, true, false] rfl rfl (by kernel_rfl) (fun _ _ _ h => h) (Or.inl ⟨by rfl, ?_⟩) ?_ ?_
          rotate_left
          · intro w'
            go_simp
            with_reducible rfl
          rotate_left
          · simp only [Act.put, List.setIfInBounds_toArray, List.set_cons_zero, List.set_cons_succ, i64_w, i32_w]
            rfl
          refine pure_ (i := 16) (N := some 8) (v := ?_) (a' := ?_) #[true, true, true, true, true, true, true, true, true, true, true, true, true, true, true, true, true] rfl rfl (by kernel_rfl) (fun _ _ _ h => h) (Or.inl ⟨by rfl, ?_⟩) ?_ ?_
          rotate_left
          · intro w'
            go_simp
            with_reducible rfl
          rotate_left
          · simp only [Act.put, List.setIfInBounds_toArray, List.set_cons_zero, List.set_cons_succ, i64_w, i32_w]
            rfl
          refine done_ (by kernel_rfl) ?_
          obtain ⟨D, hD⟩ := HWd.out.ku HL6.out.2 (fun e => e.2 rfl)
          have HDF := Aside0.mk hD
          have HLF := Aside0.mk (HLd.out.next0 HL6.out.1 HL6.out.2)
          have HIF := Aside0.mk (HI.out.expd 0).up
          have HOF := Aside0.mk HO.out.up
          clear hD
          have hlen := HDF.out.own.len Try.underlying43 3
          rw [HDF.out.siz] at hlen
          have hle := oc_le HOF.out.few
          go_wp2_with fail
          go_loopw [111] (fun j wr => j = .int .i64 0 ∧ Aside0 (wr = w6)) (fun _ _ => 0)
          case atStart => exact ⟨rfl, ⟨rfl⟩⟩
          case round =>
            obtain ⟨rfl, HWW⟩ := hrel
            obtain rfl := HWW.out
            go_wp2_with fail
            rw [en]
            exact ⟨⟨n + 1, HN1.out.1, rfl, ⟨_, _, _, _, _, HLF.out, ⟨_, HDF.out⟩, HIF.out, HOF.out⟩⟩, on_meas HN1.out.1⟩
        | some l =>
          have hsc := sc_small HACT.out.2 (HI.out.key _ _ hq).1
          have HTD := Aside0.mk (oc_told1 HLd.out HWd.out HI.out HO.out (Nat.le_trans HN1.out.2 (by decide)) HACT.out.1.2 a.good hsc a.left hq)
          clear hq hsc
          go_wp2_with fail
          refine start_ (n := 17) (S := fun w' => w'.cell? ⟨g, 2, none⟩ = some (.string a.tok) ∧ w'.cell? ⟨g, 3, none⟩ = some (.string a.sc) ∧ w'.cell? ⟨g, 4, none⟩ = some (.bool a.good) ∧ w'.cell? ⟨g, 5, none⟩ = some (.int .i64 a.left)) (ds := []) #[false, false, false, false, false, false, false, false, false, false, false, false, false, false, false, false, false] (by kernel_rfl) rfl rfl ⟨y2, y3, y4, y5⟩ (fun hHeld => ?_)
          refine pure_ (i := 0) (N := some 88) (v := ?_) (a' := ?_) #[true, false, false, false, false, false, false, false, false, false, false, false, false, false, false, false, false] rfl rfl (by kernel_rfl) (fun _ _ _ h => h) (Or.inl ⟨by rfl, ?_⟩) ?_ ?_
          rotate_left
          · intro w'
            go_simp
            with_reducible rfl
          rotate_left
          · simp only [Act.put, List.setIfInBounds_toArray, List.set_cons_zero, List.set_cons_succ, i64_w, i32_w]
            rfl
          refine pure_ (i := 1) (N := some 89) (v := ?_) (a' := ?_) #[true, true, false, false, false, false, false, false, false, false, false, false, false, false, false, false, false] rfl rfl (by kernel_rfl) (fun _ _ _ h => h) (Or.inl ⟨by rfl, ?_⟩) ?_ ?_
          rotate_left
          · intro w'
            go_simp
            with_reducible rfl
          rotate_left
          · simp only [Act.put, List.setIfInBounds_toArray, List.set_cons_zero, List.set_cons_succ, i64_w, i32_w]
            rfl
          refine pure_ (i := 3) (N := some 91) (v := ?_) (a' := ?_) #[true, true, false, true, false, false, false, false, false, false, false, false, false, false, false, false, false] rfl rfl (by kernel_rfl) (fun _ _ _ h => h) (Or.inl ⟨by rfl, ?_⟩) ?_ ?_
          rotate_left
          · intro w'
            go_simp
            with_reducible rfl
          rotate_left
          · simp only [Act.put, List.setIfInBounds_toArray, List.set_cons_zero, List.set_cons_succ, i64_w, i32_w]
            rfl
          refine pure_ (i := 5) (N := some 93) (v := ?_) (a' := ?_) #[true, true, false, true, false, true, false, false, false, false, false, false, false, false, false, false, false] rfl rfl (by kernel_rfl) (fun _ _ _ h => h) (Or.inl ⟨by rfl, ?_⟩) ?_ ?_
          rotate_left
          · intro w'
            go_simp
            with_reducible rfl
          rotate_left
          · simp only [Act.put, List.setIfInBounds_toArray, List.set_cons_zero, List.set_cons_succ, i64_w, i32_w]
            rfl
          refine pure_ (i := 7) (N := some 95) (v := ?_) (a' := ?_) #[true, true, false, true, false, true, false, true, false, false, false, false, false, false, false, false, false] rfl rfl (by kernel_rfl) (fun _ _ _ h => h) (Or.inl ⟨by rfl, ?_⟩) ?_ ?_
          rotate_left
          · intro w'
            go_simp
            with_reducible rfl
          rotate_left
          · simp only [Act.put, List.setIfInBounds_toArray, List.set_cons_zero, List.set_cons_succ, i64_w, i32_w]
            rfl
          refine pure_ (i := 9) (N := some 97) (v := ?_) (a' := ?_) #[true, true, false, true, false, true, false, true, false, true, false, false, false, false, false, false, false] rfl rfl (by kernel_rfl) (fun _ _ _ h => h) (Or.inl ⟨by rfl, ?_⟩) ?_ ?_
          rotate_left
          · intro w'
            go_simp
            with_reducible rfl
          rotate_left
          · simp only [Act.put, List.setIfInBounds_toArray, List.set_cons_zero, List.set_cons_succ, i64_w, i32_w]
            rfl
          refine take_ (i := 4) (N := some 92) (v := ?_) (a' := ?_) #[true, true, false, true, true, true, false, true, false, true, false, false, false, false, false, false, false] rfl rfl (by kernel_rfl) (fun _ _ _ h => h) (Or.inl ⟨by rfl, ?_⟩) hHeld ?_ ?_
          rotate_left
          · rintro w' ⟨s0, s1, s2, s3⟩
            go_simp
            with_reducible rfl
          rotate_left
          · simp only [Act.put, List.setIfInBounds_toArray, List.set_cons_zero, List.set_cons_succ, i64_w, i32_w]
            rfl
          refine take_ (i := 6) (N := some 94) (v := ?_) (a' := ?_) #[true, true, false, true, true, true, true, true, false, true, false, false, false, false, false, false, false] rfl rfl (by kernel_rfl) (fun _ _ _ h => h) (Or.inl ⟨by rfl, ?_⟩) hHeld ?_ ?_
          rotate_left
          · rintro w' ⟨s0, s1, s2, s3⟩
            go_simp
            with_reducible rfl
          rotate_left
          · simp only [Act.put, List.setIfInBounds_toArray, List.set_cons_zero, List.set_cons_succ, i64_w, i32_w]
            rfl
          refine take_ (i := 8) (N := some 96) (v := ?_) (a' := ?_) #[true, true, false, true, true, true, true, true, true, true, false, false, false, false, false, false, false] rfl rfl (by kernel_rfl) (fun _ _ _ h => h) (Or.inl ⟨by rfl, ?_⟩) hHeld ?_ ?_
          rotate_left
          · rintro w' ⟨s0, s1, s2, s3⟩
            go_simp
            with_reducible rfl
          rotate_left
          · simp only [Act.put, List.setIfInBounds_toArray, List.set_cons_zero, List.set_cons_succ, i64_w, i32_w]
            rfl
          refine take_ (i := 10) (N := some 98) (v := ?_) (a' := ?_) #[true, true, false, true, true, true, true, true, true, true, true, false, false, false, false, false, false] rfl rfl (by kernel_rfl) (fun _ _ _ h => h) (Or.inl ⟨by rfl, ?_⟩) hHeld ?_ ?_
          rotate_left
          · rintro w' ⟨s0, s1, s2, s3⟩
            go_simp
            with_reducible rfl
          rotate_left
          · simp only [Act.put, List.setIfInBounds_toArray, List.set_cons_zero, List.set_cons_succ, i64_w, i32_w]
            rfl
          refine one_ (i := 2) (N := some 90) #[true, true, true, true, true, true, true, true, true, true, true, false, false, false, false, false, false] rfl rfl (by kernel_rfl) (by decide) (fun K hK => ?_)
          refine goes_ Try.func10 (by kernel_rfl) rfl #[.pointer (some ⟨B + 2, 0, none⟩)] (by rfl) rfl rfl (by simp only [List.map_toArray, List.map_cons, List.map_nil]; rfl) ?_
          with_reducible refine (HNW.out).mono ?_
          rintro e w5 ⟨rfl, rfl⟩
          refine ⟨_, rfl, ?_⟩
          refine hK.out _ _ ⟨y2, y3, y4, y5⟩ (fun hHeld => ?_)
          clear hK K
          refine norm_ (a' := ?_) ?_ ?_
          rotate_left
          · show Act.put _ (some 90) _ = _
            simp only [Act.put, List.setIfInBounds_toArray, List.set_cons_zero, List.set_cons_succ, i64_w, i32_w]
            rfl
          refine one_ (i := 11) (N := some 99) #[true, true, true, true, true, true, true, true, true, true, true, true, false, false, false, false, false] rfl rfl (by kernel_rfl) (by decide) (fun K hK => ?_)
          refine goes_ Try.func11 (by kernel_rfl) rfl #[.pointer (some ⟨B + 2, 0, none⟩), .int .i64 0, .string a.tok, .bool a.good, .string a.sc, .int .i64 a.left] (by rfl) rfl rfl (by simp only [List.map_toArray, List.map_cons, List.map_nil]; rfl) ?_
          with_reducible refine (HTD.out).mono ?_
          rintro e w6 ⟨v6, kn1, rfl, hK_, hT_⟩
          refine ⟨_, rfl, ?_⟩
          have hat6 := At.ku HATd.out (by decide) (by decide) hK_
          have z2 : w6.cell? ⟨g, 2, none⟩ = some (.string a.tok) := hat6.cell 2
          have z3 : w6.cell? ⟨g, 3, none⟩ = some (.string a.sc) := hat6.cell 3
          have z4 : w6.cell? ⟨g, 4, none⟩ = some (.bool a.good) := hat6.cell 4
          have z5 : w6.cell? ⟨g, 5, none⟩ = some (.int .i64 a.left) := hat6.cell 5
          have HT6 := Aside0.mk hT_
          have HAT6 := Aside0.mk hat6
          clear hK_ hT_ hat6
          refine hK.out _ _ ⟨z2, z3, z4, z5⟩ (fun hHeld => ?_)
          clear hK K
          refine norm_ (a' := ?_) ?_ ?_
          rotate_left
          · show Act.put _ (some 99) _ = _
            simp only [Act.put, List.setIfInBounds_toArray, List.set_cons_zero, List.set_cons_succ, i64_w, i32_w]
            rfl
          refine pure_ (i := 12) (N := some 87) (v := ?_) (a' := ?_) #[true, true, true, true, true, true, true, true, true, true, true, true, true, false, false, false, false] rfl rfl (by kernel_rfl) (fun _ _ _ h => h) (Or.inl ⟨by rfl, ?_⟩) ?_ ?_
          rotate_left
          · intro w'
            go_simp
            with_reducible rfl
          rotate_left
          · simp only [Act.put, List.setIfInBounds_toArray, List.set_cons_zero, List.set_cons_succ, i64_w, i32_w]
            rfl
          refine pure_ (i := 13) (N := some 100) (v := ?_) (a' := ?_) #[true, true, true, true, true, true, true, true, true, true, true, true, true, true, false, false, false] rfl rfl (by kernel_rfl) (fun _ _ _ h => h) (Or.inl ⟨by rfl, ?_⟩) ?_ ?_
          rotate_left
          · intro w'
            go_simp
            with_reducible rfl
          rotate_left
          · simp only [Act.put, List.setIfInBounds_toArray, List.set_cons_zero, List.set_cons_succ, i64_w, i32_w]
            rfl
          refine pure_ (i := 14) (N := some 101) (v := ?_) (a' := ?_) #[true, true, true, true, true, true, true, true, true, true, true, true, true, true, true, false, false] rfl rfl (by kernel_rfl) (fun _ _ _ h => h) (Or.inl ⟨by rfl, ?_⟩) ?_ ?_
          rotate_left
          · intro w'
            go_simp
            with_reducible rfl
          rotate_left
          · simp only [Act.put, List.setIfInBounds_toArray, List.set_cons_zero, List.set_cons_succ, i64_w, i32_w]
            rfl
          refine pure_ (i := 15) (N := some 7) (v := ?_) (a' := ?_) #[true, true, true, true, true, true, true, true, true, true, true, true, true, true, true, true, false] rfl rfl (by kernel_rfl) (fun _ _ _ h => h) (Or.inl ⟨by rfl, ?_⟩) ?_ ?_
          rotate_left
          · intro w'
            go_simp
            with_reducible rfl
          rotate_left
          · simp only [Act.put, List.setIfInBounds_toArray, List.set_cons_zero, List.set_cons_succ, i64_w, i32_w]
            rfl
          refine pure_ (i := 16) (N := some 8) (v := ?_) (a' := ?_) #[true, true, true, true, true, true, true, true, true, true, true, true, true, true, true, true, true] rfl rfl (by kernel_rfl) (fun _ _ _ h => h) (Or.inl ⟨by rfl, ?_⟩) ?_ ?_
          rotate_left
          · intro w'
            go_simp
            with_reducible rfl
          rotate_left
          · simp only [Act.put, List.setIfInBounds_toArray, List.set_cons_zero, List.set_cons_succ, i64_w, i32_w]
            rfl
          refine done_ (by kernel_rfl) ?_
          obtain ⟨A6, c6, rfl⟩ := Kd.R_slice HT6.out.row
          have HS0 := Aside0.mk HT6.out.start
          have hl0 := on_ne HT6.out.nd.2.1
          have hl1 := on_ne2 HT6.out.nd.2.1
          have HLL := Aside0.mk (show l.length ≤ 64 from Nat.le_trans HT6.out.le HO.out.few)
          go_wp2_with fail
          go_loopw [111] (fun x wr => ∃ k : Nat, k ≤ l.length ∧ x = .int .i64 k ∧ Aside0 (Tn B mw (B + 2) n a.tok w N sz kn1 qs wm (.slice A6 l.length c6) l k wr) ∧ Aside0 (Blk.At g (av a) 29 wr)) (fun x _ => l.length - (intOf x).toNat)
          case atStart => exact ⟨0, Nat.zero_le _, rfl, HS0, HAT6⟩
          case round =>
            clear HS0 HAT6
            obtain ⟨k, hk, rfl, HTN, HATr⟩ := hrel
            by_cases hlt : k < l.length
            · obtain ⟨gl, rfl⟩ := Is.head HTN.out.row (by omega)
              have hx0 := (HTN.out.row.cell hlt).1
              have hks := HT6.out.nd.2.2 _ (List.getElem_mem hlt)
              obtain ⟨D, hD⟩ := HTN.out.wa
              have hlk := hD.lookT hks.1
              rw [butW_at HT6.out.nd.1 hlt, hks.2] at hlk
              have HD := Aside0.mk hD
              have hown := hD.own
              have HSTP := Aside0.mk (fun (w8 : World) (ho : w8.ownsMap Try.prog 3 RV mw 1000 (D.del (il l[k]))) (hg : wr.grownBy w8 (some mw)) => HTN.out.step HB.out hlt HT6.out.nd.1 hks.2 hD ho hg)
              have HKS := Aside0.mk hks.1
              generalize l[k] = x at hx0 hlk HSTP HKS
              have ek : wrap64 ((k : Int) + 1) = ((k + 1 : Nat) : Int) := w64n (by have := HLL.out; omega)
              have HLT := Aside0.mk hlt
              have hx2 : wr.cell? ⟨g, 2, none⟩ = some (.string a.tok) := HATr.out.cell 2
              clear hD hks
              go_wp2_with (at_delete; refine wpList_delete_own _ rfl _ _ 43 3 rfl 9 key3 Try.underlying43 RV mw 1000 D rfl hown _ _ rfl (keyOf3 HKS.out) ?_; intro w8 ho8 ht8; have HO8 := Aside0.mk ho8; have HG8 := Aside0.mk ht8.grown; clear ho8 ht8)
              rw [ek]
              exact ⟨⟨k + 1, HLT.out, rfl, ⟨HSTP.out w8 HO8.out HG8.out⟩, ⟨at_turn HATr.out HG8.out HTN.out.wa.map⟩⟩, on_meas2 HLT.out⟩
            · obtain rfl : k = l.length := by omega
              have hwa := HTN.out.wa
              rw [List.take_length] at hwa
              obtain ⟨D, hD⟩ := hwa
              have HDF := Aside0.mk hD
              have HLF := Aside0.mk HTN.out.la
              have HIF := Aside0.mk HT6.out.inv
              have HOF := Aside0.mk HT6.out.on
              clear hD
              go_wp2_with fail
              have hlen := HDF.out.own.len Try.underlying43 3
              rw [HDF.out.siz] at hlen
              have hle := oc_le HOF.out.few
              go_wp2_with fail
              rw [en]
              exact ⟨⟨n + 1, HN1.out.1, rfl, ⟨_, _, _, _, _, HLF.out, ⟨_, HDF.out⟩, HIF.out, HOF.out⟩⟩, on_meas HN1.out.1⟩
      · have HCK := Aside0.mk (oc_check HLd.out HWd.out HI.out HO.out (Nat.le_trans HN1.out.2 (by decide)) HACT.out.1.2 a.sc)
        go_wp2_with fail
        refine start_ (n := 14) (S := fun w' => w'.cell? ⟨g, 2, none⟩ = some (.string a.tok) ∧ w'.cell? ⟨g, 3, none⟩ = some (.string a.sc)) (ds := []) #[false, false, false, false, false, false, false, false, false, false, false, false, false, false] (by kernel_rfl) rfl rfl ⟨y2, y3⟩ (fun hHeld => ?_)
        refine pure_ (i := 0) (N := some 49) (v := ?_) (a' := ?_) #[true, false, false, false, false, false, false, false, false, false, false, false, false, false] rfl rfl (by kernel_rfl) (fun _ _ _ h => h) (Or.inl ⟨by rfl, ?_⟩) ?_ ?_
        rotate_left
        · intro w'
          go_simp
          with_reducible rfl
        rotate_left
        · simp only [Act.put, List.setIfInBounds_toArray, List.set_cons_zero, List.set_cons_succ, i64_w, i32_w]
          rfl
        refine pure_ (i := 1) (N := some 50) (v := ?_) (a' := ?_) #[true, true, false, false, false, false, false, false, false, false, false, false, false, false] rfl rfl (by kernel_rfl) (fun _ _ _ h => h) (Or.inl ⟨by rfl, ?_⟩) ?_ ?_
        rotate_left
        · intro w'
          go_simp
          with_reducible rfl
        rotate_left
        · simp only [Act.put, List.setIfInBounds_toArray, List.set_cons_zero, List.set_cons_succ, i64_w, i32_w]
          rfl
        refine pure_ (i := 3) (N := some 52) (v := ?_) (a' := ?_) #[true, true, false, true, false, false, false, false, false, false, false, false, false, false] rfl rfl (by kernel_rfl) (fun _ _ _ h => h) (Or.inl ⟨by rfl, ?_⟩) ?_ ?_
        rotate_left
        · intro w'
          go_simp
          with_reducible rfl
        rotate_left
        · simp only [Act.put, List.setIfInBounds_toArray, List.set_cons_zero, List.set_cons_succ, i64_w, i32_w]
          rfl
        refine pure_ (i := 5) (N := some 54) (v := ?_) (a' := ?_) #[true, true, false, true, false, true, false, false, false, false, false, false, false, false] rfl rfl (by kernel_rfl) (fun _ _ _ h => h) (Or.inl ⟨by rfl, ?_⟩) ?_ ?_
        rotate_left
        · intro w'
          go_simp
          with_reducible rfl
        rotate_left
        · simp only [Act.put, List.setIfInBounds_toArray, List.set_cons_zero, List.set_cons_succ, i64_w, i32_w]
          rfl
        refine pure_ (i := 7) (N := some 56) (v := ?_) (a' := ?_) #[true, true, false, true, false, true, false, true, false, false, false, false, false, false] rfl rfl (by kernel_rfl) (fun _ _ _ h => h) (Or.inl ⟨by rfl, ?_⟩) ?_ ?_
        rotate_left
        · intro w'
          go_simp
          with_reducible rfl
        rotate_left
        · simp only [Act.put, List.setIfInBounds_toArray, List.set_cons_zero, List.set_cons_succ, i64_w, i32_w]
          rfl
        refine take_ (i := 4) (N := some 53) (v := ?_) (a' := ?_) #[true, true, false, true, true, true, false, true, false, false, false, false, false, false] rfl rfl (by kernel_rfl) (fun _ _ _ h => h) (Or.inl ⟨by rfl, ?_⟩) hHeld ?_ ?_
        rotate_left
        · rintro w' ⟨s0, s1⟩
          go_simp
          with_reducible rfl
        rotate_left
        · simp only [Act.put, List.setIfInBounds_toArray, List.set_cons_zero, List.set_cons_succ, i64_w, i32_w]
          rfl
        refine take_ (i := 6) (N := some 55) (v := ?_) (a' := ?_) #[true, true, false, true, true, true, true, true, false, false, false, false, false, false] rfl rfl (by kernel_rfl) (fun _ _ _ h => h) (Or.inl ⟨by rfl, ?_⟩) hHeld ?_ ?_
        rotate_left
        · rintro w' ⟨s0, s1⟩
          go_simp
          with_reducible rfl
        rotate_left
        · simp only [Act.put, List.setIfInBounds_toArray, List.set_cons_zero, List.set_cons_succ, i64_w, i32_w]
          rfl
        refine one_ (i := 2) (N := some 51) #[true, true, true, true, true, true, true, true, false, false, false, false, false, false] rfl rfl (by kernel_rfl) (by decide) (fun K hK => ?_)
        refine goes_ Try.func10 (by kernel_rfl) rfl #[.pointer (some ⟨B + 2, 0, none⟩)] (by rfl) rfl rfl (by simp only [List.map_toArray, List.map_cons, List.map_nil]; rfl) ?_
        with_reducible refine (HNW.out).mono ?_
        rintro e w5 ⟨rfl, rfl⟩
        refine ⟨_, rfl, ?_⟩
        refine hK.out _ _ ⟨y2, y3⟩ (fun hHeld => ?_)
        clear hK K
        refine norm_ (a' := ?_) ?_ ?_
        rotate_left
        · show Act.put _ (some 51) _ = _
          simp only [Act.put, List.setIfInBounds_toArray, List.set_cons_zero, List.set_cons_succ, i64_w, i32_w]
          rfl
        refine one_ (i := 8) (N := some 57) #[true, true, true, true, true, true, true, true, true, false, false, false, false, false] rfl rfl (by kernel_rfl) (by decide) (fun K hK => ?_)
        refine goes_ Try.func15 (by kernel_rfl) rfl #[.pointer (some ⟨B + 2, 0, none⟩), .int .i64 0, .string a.tok, .string a.sc, .int .i64 n] (by rfl) rfl rfl (by simp only [List.map_toArray, List.map_cons, List.map_nil]; rfl) ?_
        with_reducible refine (HCK.out).mono ?_
        rintro e w6 ⟨v, yy, N', kn', qs', rfl, hK_, hL_, hcase_⟩
        refine ⟨_, rfl, ?_⟩
        have hat6 := At.ku HATd.out (by decide) (by decide) hK_
        have z2 : w6.cell? ⟨g, 2, none⟩ = some (.string a.tok) := hat6.cell 2
        have z3 : w6.cell? ⟨g, 3, none⟩ = some (.string a.sc) := hat6.cell 3
        have HL6 := Aside0.mk hL_
        have HC6 := Aside0.mk hcase_
        clear hK_ hL_ hcase_ hat6
        refine hK.out _ _ ⟨z2, z3⟩ (fun hHeld => ?_)
        clear hK K
        refine norm_ (a' := ?_) ?_ ?_
        rotate_left
        · show Act.put _ (some 57) _ = _
          simp only [Act.put, List.setIfInBounds_toArray, List.set_cons_zero, List.set_cons_succ, i64_w, i32_w]
          rfl
        refine pure_ (i := 9) (N := some 48) (v := ?_) (a' := ?_) #[true, true, true, true, true, true, true, true, true, true, false, false, false, false] rfl rfl (by kernel_rfl) (fun _ _ _ h => h) (Or.inl ⟨by rfl, ?_⟩) ?_ ?_
        rotate_left
        · intro w'
          go_simp
          with_reducible rfl
        rotate_left
        · simp only [Act.put, List.setIfInBounds_toArray, List.set_cons_zero, List.set_cons_succ, i64_w, i32_w]
          rfl
        refine pure_ (i := 10) (N := some 58) (v := ?_) (a' := ?_) #[true, true, true, true, true, true, true, true, true, true, true, false, false, false] rfl rfl (by kernel_rfl) (fun _ _ _ h => h) (Or.inl ⟨by rfl, ?_⟩) ?_ ?_
        rotate_left
        · intro w'
          go_simp
          with_reducible rfl
        rotate_left
        · simp only [Act.put, List.setIfInBounds_toArray, List.set_cons_zero, List.set_cons_succ, i64_w, i32_w]
          rfl
        refine pure_ (i := 11) (N := some 59) (v := ?_) (a' := ?_) #[true, true, true, true, true, true, true, true, true, true, true, true, false, false] rfl rfl (by kernel_rfl) (fun _ _ _ h => h) (Or.inl ⟨by rfl, ?_⟩) ?_ ?_
        rotate_left
        · intro w'
          go_simp
          with_reducible rfl
        rotate_left
        · simp only [Act.put, List.setIfInBounds_toArray, List.set_cons_zero, List.set_cons_succ, i64_w, i32_w]
          rfl
        refine pure_ (i := 12) (N := some 16) (v := ?_) (a' := ?_) #[true, true, true, true, true, true, true, true, true, true, true, true, true, false] rfl rfl (by kernel_rfl) (fun _ _ _ h => h) (Or.inl ⟨by rfl, ?_⟩) ?_ ?_
        rotate_left
        · intro w'
          go_simp
          with_reducible rfl
        rotate_left
        · simp only [Act.put, List.setIfInBounds_toArray, List.set_cons_zero, List.set_cons_succ, i64_w, i32_w]
          rfl
        refine pure_ (i := 13) (N := some 17) (v := ?_) (a' := ?_) #[true, true, true, true, true, true, true, true, true, true, true, true, true, true] rfl rfl (by kernel_rfl) (fun _ _ _ h => h) (Or.inl ⟨by rfl, ?_⟩) ?_ ?_
        rotate_left
        · intro w'
          go_simp
          with_reducible rfl
        rotate_left
        · simp only [Act.put, List.setIfInBounds_toArray, List.set_cons_zero, List.set_cons_succ, i64_w, i32_w]
          rfl
        refine done_ (by kernel_rfl) ?_
        rcases HC6.out with ⟨rfl, hv, hlt, hon⟩ | ⟨rfl, hv4, hv5, hon⟩ | ⟨rfl, h64, hon⟩
        · have HLT := Aside0.mk hlt
          have HON := Aside0.mk hon
          clear HC6 hlt hon
          rcases hv with rfl | rfl
          · obtain ⟨D, hD⟩ := HL6.out.2.1
            have HD := Aside0.mk hD
            have hown6 := hD.own
            have HIF := Aside0.mk HL6.out.2.2
            have HOF := HON
            have hle := oc_le HOF.out.few
            clear hD
            go_wp2_with (at_mapUpdate; refine wpList_mapUpdate_own _ rfl _ _ _ 43 rfl 3 9 key3 Try.underlying43 RV mw 1000 D rfl hown6 (by decide) _ _ _ rfl rfl (keyOf3 (on_key HN1.out.2)) (.held (.string a.tok)) [] rfl ?_; intro w7 ho7 hg7; obtain ⟨D7, hD7⟩ := HD.out.put HO.out.fresh (Nat.lt_trans HLT.out (by decide)) ho7; have HDF := Aside0.mk hD7; have HLF := Aside0.mk (HL6.out.1.turn HB.out hg7 (own_block HD.out.own)); have hlen := hD7.own.len Try.underlying43 3; rw [hD7.siz] at hlen; clear ho7 hg7 hown6 hD7)
            rw [en]
            exact ⟨⟨n + 1, HN1.out.1, rfl, ⟨_, _, _, _, _, HLF.out, ⟨_, HDF.out⟩, HIF.out, HOF.out⟩⟩, on_meas HN1.out.1⟩
          · obtain ⟨D, hD⟩ := HL6.out.2.1
            have HD := Aside0.mk hD
            have hown6 := hD.own
            have HIF := Aside0.mk HL6.out.2.2
            have HOF := HON
            have hle := oc_le HOF.out.few
            clear hD
            go_wp2_with (at_mapUpdate; refine wpList_mapUpdate_own _ rfl _ _ _ 43 rfl 3 9 key3 Try.underlying43 RV mw 1000 D rfl hown6 (by decide) _ _ _ rfl rfl (keyOf3 (on_key HN1.out.2)) (.held (.string a.tok)) [] rfl ?_; intro w7 ho7 hg7; obtain ⟨D7, hD7⟩ := HD.out.put HO.out.fresh (Nat.lt_trans HLT.out (by decide)) ho7; have HDF := Aside0.mk hD7; have HLF := Aside0.mk (HL6.out.1.turn HB.out hg7 (own_block HD.out.own)); have hlen := hD7.own.len Try.underlying43 3; rw [hD7.siz] at hlen; clear ho7 hg7 hown6 hD7)
            rw [en]
            exact ⟨⟨n + 1, HN1.out.1, rfl, ⟨_, _, _, _, _, HLF.out, ⟨_, HDF.out⟩, HIF.out, HOF.out⟩⟩, on_meas HN1.out.1⟩
        · have hb4 : (v == 4) = false := by simp [hv4]
          have hb5 : (v == 5) = false := by simp [hv5]
          obtain ⟨D, hD⟩ := HL6.out.2.1
          have HDF := Aside0.mk hD
          have HLF := Aside0.mk HL6.out.1
          have HIF := Aside0.mk HL6.out.2.2
          have HOF := Aside0.mk hon
          clear hD hon hv4 hv5 HC6
          go_wp2_with fail
          have hlen := HDF.out.own.len Try.underlying43 3
          rw [HDF.out.siz] at hlen
          have hle := oc_le HOF.out.few
          go_wp2_with fail
          rw [en]
          exact ⟨⟨n + 1, HN1.out.1, rfl, ⟨_, _, _, _, _, HLF.out, ⟨_, HDF.out⟩, HIF.out, HOF.out⟩⟩, on_meas HN1.out.1⟩
        · obtain ⟨D, hD⟩ := HL6.out.2.1
          have HDF := Aside0.mk hD
          have HLF := Aside0.mk HL6.out.1
          have HIF := Aside0.mk HL6.out.2.2
          have HOF := Aside0.mk hon
          clear hD hon HC6
          subst h64
          have hlen := HDF.out.own.len Try.underlying43 3
          rw [HDF.out.siz] at hlen
          go_wp2_with fail
          rw [en]
          exact ⟨⟨n + 1, HN1.out.1, rfl, ⟨_, _, _, _, _, HLF.out, ⟨_, HDF.out⟩, HIF.out, HOF.out⟩⟩, on_meas HN1.out.1⟩
      · go_upto_region 30 with fail
        go_cut [149] (fun v wc => v = .bool (decide (a.n < 0 ∨ (n : Int) < a.n)) ∧ Aside0 (wc = Wb))
        case first =>
          by_cases h1 : a.n < 0
          · have hd : decide (a.n < 0 ∨ (n : Int) < a.n) = true := decide_eq_true (.inl h1)
            go_wp2_with fail
            go_meet
            case rel => exact ⟨by rw [hd], ⟨rfl⟩⟩
          · by_cases h2 : (n : Int) < a.n
            · have hd : decide (a.n < 0 ∨ (n : Int) < a.n) = true := decide_eq_true (.inr h2)
              go_wp2_with fail
              go_meet
              case rel => exact ⟨by rw [hd], ⟨rfl⟩⟩
            · have hd : decide (a.n < 0 ∨ (n : Int) < a.n) = false := decide_eq_false fun h => h.elim h1 h2
              go_wp2_with fail
              go_meet
              case rel => exact ⟨by rw [hd], ⟨rfl⟩⟩
        case rest =>
        as_aux_lemma =>
        obtain ⟨rfl, HWW⟩ := hcut
        obtain rfl := HWW.out
        generalize hcd : decide (a.n < 0 ∨ (n : Int) < a.n) = cd
        have HCD := Aside0.mk hcd
        clear hcd HWW
        go_upto_if 149 with fail
        go_cut [13] (fun v wd => ∃ k : Int, v = .int .i64 k ∧ (0 ≤ k ∧ k ≤ (n : Int)) ∧ Aside0 (wd = wc))
        case first =>
          cases cd
          · have hk := oc_k (of_decide_eq_false HCD.out)
            go_wp2_with fail
            go_meet
            case rel => exact ⟨_, rfl, hk, ⟨rfl⟩⟩
          · go_wp2_with fail
            go_meet
            case rel => exact ⟨_, rfl, ⟨Int.natCast_nonneg n, Int.le_refl _⟩, ⟨rfl⟩⟩
        case rest =>
        as_aux_lemma =>
        obtain ⟨k, rfl, hk, HWW⟩ := hcut
        have HWe := HWW.out
        subst HWe
        have HK1 := Aside0.mk (oc_k1 hk HN1.out.2)
        obtain ⟨D, hD⟩ := HWb.out
        have hlk := hD.lookT HK1.out
        have hdr := oc_drop HLb.out HWb.out HI.out HO.out (Nat.le_trans HN1.out.2 (by decide)) k
        obtain ⟨b, hbk⟩ : ∃ b, b = (wm k).isSome := ⟨_, rfl⟩
        have HBK := Aside0.mk hbk
        rw [← hbk] at hlk hdr
        have HDR := Aside0.mk hdr
        clear hk HWW hD hdr hbk y0 y2 y3 y4 y5 y6
        go_wp2_with fail
        refine HDR.out.mono ?_
        rintro e w6 ⟨rfl, hK, ⟨hL, hW, hI⟩, hO⟩
        obtain ⟨D6, hD6⟩ := hW
        have HD6 := Aside0.mk hD6
        have HL6 := Aside0.mk hL
        have HIF := Aside0.mk hI
        have HOF := Aside0.mk hO
        have hown6 := hD6.own
        have hle := oc_le HOF.out.few
        clear hK hL hI hO hD6 HDR hlk
        go_wp2_with (at_delete; refine wpList_delete_own _ rfl _ _ 43 3 rfl 9 key3 Try.underlying43 RV mw 1000 D6 rfl hown6 _ _ rfl (keyOf3 HK1.out) ?_; intro w7 ho7 ht7; have hdel := HD6.out.del ho7; rw [← HBK.out] at hdel; obtain ⟨D7, hD7⟩ := hdel; have HDF := Aside0.mk hD7; have HLF := Aside0.mk (HL6.out.turn HB.out ht7.grown (own_block HD6.out.own)); have hlen := hD7.own.len Try.underlying43 3; rw [hD7.siz] at hlen; clear ho7 ht7 hown6 hD7)
        rw [en]
        exact ⟨⟨n + 1, HN1.out.1, rfl, ⟨_, _, _, _, _, HLF.out, ⟨_, HDF.out⟩, HIF.out, HOF.out⟩⟩, on_meas HN1.out.1⟩
      · have HCK := Aside0.mk (oc_check HLd.out HWd.out HI.out HO.out (Nat.le_trans HN1.out.2 (by decide)) HACT.out.1.2 a.sc)
        go_wp2_with fail
        refine start_ (n := 14) (S := fun w' => w'.cell? ⟨g, 2, none⟩ = some (.string a.tok) ∧ w'.cell? ⟨g, 3, none⟩ = some (.string a.sc)) (ds := []) #[false, false, false, false, false, false, false, false, false, false, false, false, false, false] (by kernel_rfl) rfl rfl ⟨y2, y3⟩ (fun hHeld => ?_)
        refine pure_ (i := 0) (N := some 49) (v := ?_) (a' := ?_) #[true, false, false, false, false, false, false, false, false, false, false, false, false, false] rfl rfl (by kernel_rfl) (fun _ _ _ h => h) (Or.inl ⟨by rfl, ?_⟩) ?_ ?_
        rotate_left
        · intro w'
          go_simp
          with_reducible rfl
        rotate_left
        · simp only [Act.put, List.setIfInBounds_toArray, List.set_cons_zero, List.set_cons_succ, i64_w, i32_w]
          rfl
        refine pure_ (i := 1) (N := some 50) (v := ?_) (a' := ?_) #[true, true, false, false, false, false, false, false, false, false, false, false, false, false] rfl rfl (by kernel_rfl) (fun _ _ _ h => h) (Or.inl ⟨by rfl, ?_⟩) ?_ ?_
        rotate_left
        · intro w'
          go_simp
          with_reducible rfl
        rotate_left
        · simp only [Act.put, List.setIfInBounds_toArray, List.set_cons_zero, List.set_cons_succ, i64_w, i32_w]
          rfl
        refine pure_ (i := 3) (N := some 52) (v := ?_) (a' := ?_) #[true, true, false, true, false, false, false, false, false, false, false, false, false, false] rfl rfl (by kernel_rfl) (fun _ _ _ h => h) (Or.inl ⟨by rfl, ?_⟩) ?_ ?_
        rotate_left
        · intro w'
          go_simp
          with_reducible rfl
        rotate_left
        · simp only [Act.put, List.setIfInBounds_toArray, List.set_cons_zero, List.set_cons_succ, i64_w, i32_w]
          rfl
        refine pure_ (i := 5) (N := some 54) (v := ?_) (a' := ?_) #[true, true, false, true, false, true, false, false, false, false, false, false, false, false] rfl rfl (by kernel_rfl) (fun _ _ _ h => h) (Or.inl ⟨by rfl, ?_⟩) ?_ ?_
        rotate_left
        · intro w'
          go_simp
          with_reducible rfl
        rotate_left
        · simp only [Act.put, List.setIfInBounds_toArray, List.set_cons_zero, List.set_cons_succ, i64_w, i32_w]
          rfl
        refine pure_ (i := 7) (N := some 56) (v := ?_) (a' := ?_) #[true, true, false, true, false, true, false, true, false, false, false, false, false, false] rfl rfl (by kernel_rfl) (fun _ _ _ h => h) (Or.inl ⟨by rfl, ?_⟩) ?_ ?_
        rotate_left
        · intro w'
          go_simp
          with_reducible rfl
        rotate_left
        · simp only [Act.put, List.setIfInBounds_toArray, List.set_cons_zero, List.set_cons_succ, i64_w, i32_w]
          rfl
        refine take_ (i := 4) (N := some 53) (v := ?_) (a' := ?_) #[true, true, false, true, true, true, false, true, false, false, false, false, false, false] rfl rfl (by kernel_rfl) (fun _ _ _ h => h) (Or.inl ⟨by rfl, ?_⟩) hHeld ?_ ?_
        rotate_left
        · rintro w' ⟨s0, s1⟩
          go_simp
          with_reducible rfl
        rotate_left
        · simp only [Act.put, List.setIfInBounds_toArray, List.set_cons_zero, List.set_cons_succ, i64_w, i32_w]
          rfl
        refine take_ (i := 6) (N := some 55) (v := ?_) (a' := ?_) #[true, true, false, true, true, true, true, true, false, false, false, false, false, false] rfl rfl (by kernel_rfl) (fun _ _ _ h => h) (Or.inl ⟨by rfl, ?_⟩) hHeld ?_ ?_
        rotate_left
        · rintro w' ⟨s0, s1⟩
          go_simp
          with_reducible rfl
        rotate_left
        · simp only [Act.put, List.setIfInBounds_toArray, List.set_cons_zero, List.set_cons_succ, i64_w, i32_w]
          rfl
        refine one_ (i := 2) (N := some 51) #[true, true, true, true, true, true, true, true, false, false, false, false, false, false] rfl rfl (by kernel_rfl) (by decide) (fun K hK => ?_)
        refine goes_ Try.func10 (by kernel_rfl) rfl #[.pointer (some ⟨B + 2, 0, none⟩)] (by rfl) rfl rfl (by simp only [List.map_toArray, List.map_cons, List.map_nil]; rfl) ?_
        with_reducible refine (HNW.out).mono ?_
        rintro e w5 ⟨rfl, rfl⟩
        refine ⟨_, rfl, ?_⟩
        refine hK.out _ _ ⟨y2, y3⟩ (fun hHeld => ?_)
        clear hK K
        refine norm_ (a' := ?_) ?_ ?_
        rotate_left
        · show Act.put _ (some 51) _ = _
          simp only [Act.put, List.setIfInBounds_toArray, List.set_cons_zero, List.set_cons_succ, i64_w, i32_w]
          rfl
        refine one_ (i := 8) (N := some 57) #[true, true, true, true, true, true, true, true, true, false, false, false, false, false] rfl rfl (by kernel_rfl) (by decide) (fun K hK => ?_)
        refine goes_ Try.func15 (by kernel_rfl) rfl #[.pointer (some ⟨B + 2, 0, none⟩), .int .i64 0, .string a.tok, .string a.sc, .int .i64 n] (by rfl) rfl rfl (by simp only [List.map_toArray, List.map_cons, List.map_nil]; rfl) ?_
        with_reducible refine (HCK.out).mono ?_
        rintro e w6 ⟨v, yy, N', kn', qs', rfl, hK_, hL_, hcase_⟩
        refine ⟨_, rfl, ?_⟩
        have hat6 := At.ku HATd.out (by decide) (by decide) hK_
        have z2 : w6.cell? ⟨g, 2, none⟩ = some (.string a.tok) := hat6.cell 2
        have z3 : w6.cell? ⟨g, 3, none⟩ = some (.string a.sc) := hat6.cell 3
        have HL6 := Aside0.mk hL_
        have HC6 := Aside0.mk hcase_
        clear hK_ hL_ hcase_ hat6
        refine hK.out _ _ ⟨z2, z3⟩ (fun hHeld => ?_)
        clear hK K
        refine norm_ (a' := ?_) ?_ ?_
        rotate_left
        · show Act.put _ (some 57) _ = _
          simp only [Act.put, List.setIfInBounds_toArray, List.set_cons_zero, List.set_cons_succ, i64_w, i32_w]
          rfl
        refine pure_ (i := 9) (N := some 48) (v := ?_) (a' := ?_) #[true, true, true, true, true, true, true, true, true, true, false, false, false, false] rfl rfl (by kernel_rfl) (fun _ _ _ h => h) (Or.inl ⟨by rfl, ?_⟩) ?_ ?_
        rotate_left
        · intro w'
          go_simp
          with_reducible rfl
        rotate_left
        · simp only [Act.put, List.setIfInBounds_toArray, List.set_cons_zero, List.set_cons_succ, i64_w, i32_w]
          rfl
        refine pure_ (i := 10) (N := some 58) (v := ?_) (a' := ?_) #[true, true, true, true, true, true, true, true, true, true, true, false, false, false] rfl rfl (by kernel_rfl) (fun _ _ _ h => h) (Or.inl ⟨by rfl, ?_⟩) ?_ ?_
        rotate_left
        · intro w'
          go_simp
          with_reducible rfl
        rotate_left
        · simp only [Act.put, List.setIfInBounds_toArray, List.set_cons_zero, List.set_cons_succ, i64_w, i32_w]
          rfl
        refine pure_ (i := 11) (N := some 59) (v := ?_) (a' := ?_) #[true, true, true, true, true, true, true, true, true, true, true, true, false, false] rfl rfl (by kernel_rfl) (fun _ _ _ h => h) (Or.inl ⟨by rfl, ?_⟩) ?_ ?_
        rotate_left
        · intro w'
          go_simp
          with_reducible rfl
        rotate_left
        · simp only [Act.put, List.setIfInBounds_toArray, List.set_cons_zero, List.set_cons_succ, i64_w, i32_w]
          rfl
        refine pure_ (i := 12) (N := some 16) (v := ?_) (a' := ?_) #[true, true, true, true, true, true, true, true, true, true, true, true, true, false] rfl rfl (by kernel_rfl) (fun _ _ _ h => h) (Or.inl ⟨by rfl, ?_⟩) ?_ ?_
        rotate_left
        · intro w'
          go_simp
          with_reducible rfl
        rotate_left
        · simp only [Act.put, List.setIfInBounds_toArray, List.set_cons_zero, List.set_cons_succ, i64_w, i32_w]
          rfl
        refine pure_ (i := 13) (N := some 17) (v := ?_) (a' := ?_) #[true, true, true, true, true, true, true, true, true, true, true, true, true, true] rfl rfl (by kernel_rfl) (fun _ _ _ h => h) (Or.inl ⟨by rfl, ?_⟩) ?_ ?_
        rotate_left
        · intro w'
          go_simp
          with_reducible rfl
        rotate_left
        · simp only [Act.put, List.setIfInBounds_toArray, List.set_cons_zero, List.set_cons_succ, i64_w, i32_w]
          rfl
        refine done_ (by kernel_rfl) ?_
        rcases HC6.out with ⟨rfl, hv, hlt, hon⟩ | ⟨rfl, hv4, hv5, hon⟩ | ⟨rfl, h64, hon⟩
        · have HLT := Aside0.mk hlt
          have HON := Aside0.mk hon
          clear HC6 hlt hon
          rcases hv with rfl | rfl
          · obtain ⟨D, hD⟩ := HL6.out.2.1
            have HD := Aside0.mk hD
            have hown6 := hD.own
            have HIF := Aside0.mk HL6.out.2.2
            have HOF := HON
            have hle := oc_le HOF.out.few
            clear hD
            go_wp2_with (at_mapUpdate; refine wpList_mapUpdate_own _ rfl _ _ _ 43 rfl 3 9 key3 Try.underlying43 RV mw 1000 D rfl hown6 (by decide) _ _ _ rfl rfl (keyOf3 (on_key HN1.out.2)) (.held (.string a.tok)) [] rfl ?_; intro w7 ho7 hg7; obtain ⟨D7, hD7⟩ := HD.out.put HO.out.fresh (Nat.lt_trans HLT.out (by decide)) ho7; have HDF := Aside0.mk hD7; have HLF := Aside0.mk (HL6.out.1.turn HB.out hg7 (own_block HD.out.own)); have hlen := hD7.own.len Try.underlying43 3; rw [hD7.siz] at hlen; clear ho7 hg7 hown6 hD7)
            rw [en]
            exact ⟨⟨n + 1, HN1.out.1, rfl, ⟨_, _, _, _, _, HLF.out, ⟨_, HDF.out⟩, HIF.out, HOF.out⟩⟩, on_meas HN1.out.1⟩
          · obtain ⟨D, hD⟩ := HL6.out.2.1
            have HD := Aside0.mk hD
            have hown6 := hD.own
            have HIF := Aside0.mk HL6.out.2.2
            have HOF := HON
            have hle := oc_le HOF.out.few
            clear hD
            go_wp2_with (at_mapUpdate; refine wpList_mapUpdate_own _ rfl _ _ _ 43 rfl 3 9 key3 Try.underlying43 RV mw 1000 D rfl hown6 (by decide) _ _ _ rfl rfl (keyOf3 (on_key HN1.out.2)) (.held (.string a.tok)) [] rfl ?_; intro w7 ho7 hg7; obtain ⟨D7, hD7⟩ := HD.out.put HO.out.fresh (Nat.lt_trans HLT.out (by decide)) ho7; have HDF := Aside0.mk hD7; have HLF := Aside0.mk (HL6.out.1.turn HB.out hg7 (own_block HD.out.own)); have hlen := hD7.own.len Try.underlying43 3; rw [hD7.siz] at hlen; clear ho7 hg7 hown6 hD7)
            rw [en]
            exact ⟨⟨n + 1, HN1.out.1, rfl, ⟨_, _, _, _, _, HLF.out, ⟨_, HDF.out⟩, HIF.out, HOF.out⟩⟩, on_meas HN1.out.1⟩
        · have hb4 : (v == 4) = false := by simp [hv4]
          have hb5 : (v == 5) = false := by simp [hv5]
          obtain ⟨D, hD⟩ := HL6.out.2.1
          have HDF := Aside0.mk hD
          have HLF := Aside0.mk HL6.out.1
          have HIF := Aside0.mk HL6.out.2.2
          have HOF := Aside0.mk hon
          clear hD hon hv4 hv5 HC6
          go_wp2_with fail
          have hlen := HDF.out.own.len Try.underlying43 3
          rw [HDF.out.siz] at hlen
          have hle := oc_le HOF.out.few
          go_wp2_with fail
          rw [en]
          exact ⟨⟨n + 1, HN1.out.1, rfl, ⟨_, _, _, _, _, HLF.out, ⟨_, HDF.out⟩, HIF.out, HOF.out⟩⟩, on_meas HN1.out.1⟩
        · obtain ⟨D, hD⟩ := HL6.out.2.1
          have HDF := Aside0.mk hD
          have HLF := Aside0.mk HL6.out.1
          have HIF := Aside0.mk HL6.out.2.2
          have HOF := Aside0.mk hon
          clear hD hon HC6
          subst h64
          have hlen := HDF.out.own.len Try.underlying43 3
          rw [HDF.out.siz] at hlen
          go_wp2_with fail
          rw [en]
          exact ⟨⟨n + 1, HN1.out.1, rfl, ⟨_, _, _, _, _, HLF.out, ⟨_, HDF.out⟩, HIF.out, HOF.out⟩⟩, on_meas HN1.out.1⟩
    · obtain rfl : n = m := by omega
      have hN1 := hI.nN
      have HAS := Aside0.mk (p_Asked.calls hL.da (oc_n hN1 HM.out.2))
      have HST := Aside0.mk (show ∀ (w4 : World) (ks : List ByteArray), Below wr.heap.size wr w4 → Ft B mw (B + 2) n 0 qs ks w w4 from fun w4 ks hb => ⟨_, _, _, _, _, hL.below hb, hWA.below hb, hI, hO, telQ_nil _ _⟩)
      have HKS0 := Aside0.mk (And.intro hN1 HM.out.2)
      clear hL hWA hI hO HR hlt hN1
      go_wp2_with fail
      refine HAS.out.mono ?_
      rintro e w4 ⟨v4, ks, rfl, hLs, hks, hb⟩
      obtain ⟨AK, cK, rfl⟩ := Kd.R_slice hLs
      have HLS := Aside0.mk hLs
      have HKS := Aside0.mk hks
      have HKL := Aside0.mk (show ks.length ≤ 100 from oc_ks HKS0.out hks.2.2.1)
      have HF0 := Aside0.mk (HST.out w4 ks hb)
      obtain ⟨base, hbase⟩ : ∃ base, base = wr.heap.size := ⟨_, rfl⟩
      rw [← hbase] at HLS
      clear hLs hks hb HAS HST hbase
      go_wp2_with fail
      go_loopw [171] (fun x wr => ∃ j : Nat, j ≤ ks.length ∧ x = .int .i64 j ∧ Aside0 (Ft B mw (B + 2) n j qs ks w wr) ∧ Aside0 (Ls base wr (.slice AK ks.length cK) ks)) (fun x _ => ks.length - (intOf x).toNat)
      case atStart => exact ⟨0, Nat.zero_le _, rfl, HF0, HLS⟩
      case round =>
        clear HF0 HLS
        obtain ⟨j, hj, rfl, HF, HLS⟩ := hrel
        by_cases hlt : j < ks.length
        · obtain ⟨ad, rfl, hcs⟩ := Kd.C_strings_cells (Ls.C HLS.out) (by omega)
          have hx0 : wr.cell? (ad.add j) = some (.string ks[j]) := hcs j _ (List.getElem?_eq_getElem hlt)
          have hmem : ks[j] ∈ ks := List.getElem_mem hlt
          have hsz := HKS.out.2.2.2 _ hmem
          obtain ⟨l0, hl0⟩ := Option.isSome_iff_exists.1 ((HKS.out.2.1 _).1 hmem)
          obtain ⟨N', sz', kn', qs', wm', hL, hWA, hI, hO, hqs⟩ := HF.out
          have hfr : qs' ks[j] = some l0 := by rw [hqs, telQ_fresh HKS.out.1 hlt]; exact hl0
          have hstp : upd qs' ks[j] none = telQ qs (ks.take (j + 1)) := by rw [hqs, telQ_step hlt]
          generalize ks[j] = t at hx0 hsz hfr hstp
          have HNW := Aside0.mk (p_Now.calls hL.da)
          have HTD := Aside0.mk (oc_told1 hL hWA hI hO (oc_200 HM.out.2 HKL.out hlt) hsz true (sc := ⟨#[]⟩) (by decide) 1 hfr)
          have HOF := Aside0.mk hO.few
          have HSTP := Aside0.mk hstp
          have HLT := Aside0.mk hlt
          have ej : wrap64 ((j : Int) + 1) = ((j + 1 : Nat) : Int) := w64n (by have := HKL.out; omega)
          clear hcs hmem hsz hl0 hL hWA hI hO hqs hfr hstp HF
          go_wp2_with fail
          refine HNW.out.mono ?_
          rintro e w5 ⟨rfl, rfl⟩
          go_wp2_with fail
          refine HTD.out.mono ?_
          rintro e w6 ⟨v6, kn1, rfl, hK, hT⟩
          have HT6 := Aside0.mk hT
          have HLK6 := Aside0.mk (Ls.ku HLS.out hK)
          obtain ⟨A6, c6, rfl⟩ := Kd.R_slice hT.row
          have HS0 := Aside0.mk HT6.out.start
          have HLL := Aside0.mk (show l0.length ≤ 64 from Nat.le_trans HT6.out.le HOF.out)
          clear hK hT HTD HNW hx0 HLS
          go_wp2_with fail
          go_loopw [185] (fun x wr => ∃ k : Nat, k ≤ l0.length ∧ x = .int .i64 k ∧ Aside0 (Tn B mw (B + 2) (n + j) t w N' sz' kn1 qs' wm' (.slice A6 l0.length c6) l0 k wr) ∧ Aside0 (Ls base wr (.slice (some ad) ks.length cK) ks)) (fun x _ => l0.length - (intOf x).toNat)
          case atStart => exact ⟨0, Nat.zero_le _, rfl, HS0, HLK6⟩
          case round =>
            clear HS0 HLK6
            obtain ⟨k, hk, rfl, HTN, HLKr⟩ := hrel
            by_cases hlt : k < l0.length
            · obtain ⟨gl, rfl⟩ := Is.head HTN.out.row (by omega)
              have hx0 := (HTN.out.row.cell hlt).1
              have hks := HT6.out.nd.2.2 _ (List.getElem_mem hlt)
              obtain ⟨D, hD⟩ := HTN.out.wa
              have hlk := hD.lookF hks.1
              rw [butW_at HT6.out.nd.1 hlt, hks.2] at hlk
              have HD := Aside0.mk hD
              have hown := hD.own
              have HSTQ := Aside0.mk (fun (w8 : World) (ho : w8.ownsMap Try.prog 3 RV mw 1000 (D.del (il l0[k]))) (hg : wr.grownBy w8 (some mw)) => HTN.out.step HB.out hlt HT6.out.nd.1 hks.2 hD ho hg)
              have HKS := Aside0.mk hks.1
              generalize l0[k] = x at hx0 hlk HSTQ HKS
              have ek : wrap64 ((k : Int) + 1) = ((k + 1 : Nat) : Int) := w64n (by have := HLL.out; omega)
              have HLK := Aside0.mk hlt
              clear hD hks
              go_wp2_with (at_delete; refine wpList_delete_own _ rfl _ _ 43 3 rfl 9 key3 Try.underlying43 RV mw 1000 D rfl hown _ _ rfl (keyOf3 HKS.out) ?_; intro w8 ho8 ht8; have HO8 := Aside0.mk ho8; have HG8 := Aside0.mk ht8.grown; clear ho8 ht8)
              rw [ek]
              exact ⟨⟨k + 1, HLK.out, rfl, ⟨HSTQ.out w8 HO8.out HG8.out⟩, ⟨ls_turn HLKr.out HG8.out HTN.out.wa.map⟩⟩, on_meas2 HLK.out⟩
            · obtain rfl : k = l0.length := by omega
              have hwa := HTN.out.wa
              rw [List.take_length] at hwa
              have HFN := Aside0.mk (show Ft B mw (B + 2) n (j + 1) qs ks w wr from ⟨_, _, _, _, _, HTN.out.la, hwa, HT6.out.inv, HT6.out.on, HSTP.out⟩)
              clear hwa
              go_wp2_with fail
              rw [ej]
              exact ⟨⟨j + 1, HLT.out, rfl, HFN, HLKr⟩, on_meas2 HLT.out⟩
        · obtain rfl : j = ks.length := by omega
          obtain ⟨N', sz', kn', qs', wm', hL, hWA, hI, hO, hqs⟩ := HF.out
          have hz : sz' = 0 := hO.all fun k => by rw [hqs, List.take_length]; exact telQ_all HKS.out.2.1 k
          subst hz
          obtain ⟨D, hD⟩ := hWA
          have hlen := hD.own.len Try.underlying43 3
          rw [hD.siz] at hlen
          have HLF := Aside0.mk hL
          clear hD hL hI hO hqs HF
          go_wp2_with fail
          refine (law_alive.calls _).mono ?_
          rintro e w5 ⟨rfl, hb⟩
          have HB5 := Aside0.mk (HLF.out.below hb).low
          clear hb
          go_wp2_with fail
          go_ret
          exact ⟨rfl, HBE.out ▸ HB5.out⟩
end Go.Proofs.Ytnakiheekkpfdaa.Q
