/- A plan's functions, walked: Sync. No condition but those typed. -/
import Derived.Test.YtomkjakffpomdaaSw2
namespace Go.Proofs.Ytomkjakffpomdaa.Q
open Go.RowKit Go.Maps Go.Sort Go.Shelf Go.Proofs.YtomkjakffpomdaaW.PrintWords Go.Proofs.YtomkjakffpomdaaW.PrintLast Go.Proofs.YtomkjakffpomdaaW.PrintMore
attribute [local go_sem] max2_int min2_int max_two min_two max_three min_three max_four min_four   -- for this text's walks alone
set_option linter.unusedVariables false
set_option linter.unusedSimpArgs false
set_option maxRecDepth 100000
theorem p_Sync.dead {v : Value} {w : World} (h : Dead v w) (now : Int) (A : Option Addr) (n c : Nat) : Calls Try.prog 8 #[v, .int .i64 now, .slice A n c] w fun e w' => e = .returned (.int .i64 0) ∧ w' = w := by
  have hk := p_ok.dead h
  clear h
  go_enter Try.func8, Try.ntmps8
  go_wp2_with fail
  refine hk.mono ?_
  rintro e w1 ⟨rfl, rfl⟩
  go_wp2_with fail
  go_ret
  exact ⟨rfl, rfl⟩
theorem Kp.grown {B : Nat} {a b c : World} {row : Option Nat} (h : Kp B a b) (g : b.grownBy c row) (hr : ∀ j, row = some j → a.heap.size ≤ j ∨ (B ≤ j ∧ ∃ o, a.heap[j]? = some o ∧ keyed o)) : Kp B a c := by
  refine ⟨g.os.trans h.os, g.tape.trans h.tape, g.output.trans h.output, Nat.le_trans h.size g.size, fun i hi hB => ?_, fun i o ho hk => ?_⟩
  · rw [g.block i (Nat.lt_of_lt_of_le hi h.size) (fun e => by
      rcases hr i e.symm with h1 | h1 <;> omega)]
    exact h.low i hi hB
  · have hi := (Array.getElem?_eq_some_iff.1 ho).1
    rw [g.block i (Nat.lt_of_lt_of_le hi h.size) (fun e => by
      rcases hr i e.symm with h1 | ⟨_, o', h2, h3⟩
      · omega
      · rw [ho] at h2
        cases h2
        exact hk h3)]
    exact h.block i o ho hk
/-- Another map is written. -/
theorem Pl.other {B N p m : Nat} {b : ByteArray → Nat} {D : DataW Value} {t : Int} {f : PF} {w w' : World} (h : Pl B N p m b D t f w) {sb : Nat} {es : Array MapEntry} {cl : Nat} (hs : w.heap[sb]? = some (.map es cl)) (hne : sb ≠ m) (g : w.grownBy w' (some sb)) : Pl B N p m b D t f w' := by
  have hk : ∀ (i : Nat) (cs : Array Value) (ty : TypeId), Blk.At i cs ty w → Blk.At i cs ty w' := fun i cs ty hi => by
    refine (g.block i hi.lt (fun e => ?_)).trans hi
    cases e
    unfold Blk.At at hi
    rw [hs] at hi
    cases hi
  exact ⟨h.own.kept g (fun e => hne (by cases e; rfl)), h.has, h.at_, fun k x hx => hk _ _ _ (h.blk k x hx), h.inj, h.bB, h.pB, h.mB, hk _ _ _ h.pl⟩
theorem PA.other {B N p m : Nat} {t : Int} {f : PF} {w w' : World} (h : PA B N p m t f w) {sb : Nat} {es : Array MapEntry} {cl : Nat} (hs : w.heap[sb]? = some (.map es cl)) (hne : sb ≠ m) (g : w.grownBy w' (some sb)) : PA B N p m t f w' := by
  obtain ⟨b, D, h⟩ := h
  exact ⟨b, D, h.other hs hne g⟩
theorem zero4 (w : World) : (zeroValue 4).run Try.prog w = .ok (.bool false) w := by kernel_rfl
/-- A set of keys. -/
structure SetAt (sb n : Nat) (S : ByteArray → Bool) (w : World) : Prop where
  ex : ∃ D, w.ownsMap Try.prog 9 RV sb n D ∧ ∀ k, D.atKey (kl k) (.held (.bool false)) = .held (.bool (S k))
theorem SetAt.look {sb n : Nat} {S : ByteArray → Bool} {w : World} (h : SetAt sb n S w) {s : ByteArray} (hs : s.size ≤ maxLen) : (Instr.lookup 54 (.map (some sb)) (.string s) false).run Try.prog w = .ok (.bool (S s)) w := by
  obtain ⟨D, ho, ha⟩ := h.ex
  obtain ⟨v, ps, hr, hv⟩ := ho.lookup key9 Try.underlying54 (zero4 w) (zd := .held (.bool false)) (zp := []) rfl (keyOf9 hs)
  rw [hr]
  have hv' : DataW.held v = D.atKey (kl s) (.held (.bool false)) := congrArg Prod.fst (Option.some.inj hv)
  rw [ha s] at hv'
  cases hv'
  rfl
theorem SetAt.kept {sb n : Nat} {S : ByteArray → Bool} {w w' : World} {row : Option Nat} (h : SetAt sb n S w) (g : w.grownBy w' row) (hne : some sb ≠ row) : SetAt sb n S w' := by
  obtain ⟨D, ho, ha⟩ := h.ex
  exact ⟨D, ho.kept g hne, ha⟩
theorem SetAt.map {sb n : Nat} {S : ByteArray → Bool} {w : World} (h : SetAt sb n S w) : ∃ es cl, w.heap[sb]? = some (.map es cl) := by
  obtain ⟨D, ⟨es, cl, hb, _⟩, _⟩ := h.ex
  exact ⟨es, cl, hb⟩
theorem SetAt.put {sb n : Nat} {S : ByteArray → Bool} {w w' : World} {D : DataW Value} (ho : w.ownsMap Try.prog 9 RV sb n D) (ha : ∀ k, D.atKey (kl k) (.held (.bool false)) = .held (.bool (S k))) {s : ByteArray} (h : w'.ownsMap Try.prog 9 RV sb (n + 1) (D.put (kl s) (.held (.bool true)))) : SetAt sb (n + 1) (fun k => decide (k = s) || S k) w' :=
  ⟨_, h, fun k => by
    by_cases e : k = s
    · subst e
      rw [Maps.atKey_put_same ho.isMap (kl_key _)]
      simp
    · rw [Maps.atKey_put_other (kl_ne e), ha k]
      simp [e]⟩
theorem grownBy_none {w w' : World} (h : Below w.heap.size w w') : w.grownBy w' none := ⟨h.os, h.tape, h.output, h.size, fun i hi _ => h.block i hi⟩
/-- What one URL makes of the feeds, and of how many were new. -/
def stepU (t : Int) (s : PF × Nat) (u : ByteArray) : PF × Nat := match s.1 u with
  | some _ => s
  | none => (upd s.1 u (some ⟨t, 0, -1⟩), s.2 + 1)
def foldU (t : Int) (f : PF) (us : List ByteArray) : PF × Nat := us.foldl (stepU t) (f, 0)
theorem foldU_snoc (t : Int) (f : PF) (us : List ByteArray) {n : Nat} (h : n < us.length) : foldU t f (us.take (n + 1)) = stepU t (foldU t f (us.take n)) us[n] := by
  unfold foldU
  rw [List.take_succ_eq_append_getElem h, List.foldl_append]
  rfl
theorem foldU_count (t : Int) (f : PF) : ∀ us : List ByteArray, (foldU t f us).2 ≤ us.length := by
  have h : ∀ (us : List ByteArray) (s : PF × Nat), (us.foldl (stepU t) s).2 ≤ s.2 + us.length := fun us => by
    induction us with
    | nil => intro s; simp
    | cons u r ih =>
      intro s
      have h1 := ih (stepU t s u)
      have h2 : (stepU t s u).2 ≤ s.2 + 1 := by unfold stepU; cases s.1 u <;> simp
      simp only [List.foldl_cons, List.length_cons]
      omega
  intro us
  have := h us (f, 0)
  simpa [foldU] using this
def inU (us : List ByteArray) (k : ByteArray) : Bool := us.any (fun y => decide (y = k))
def syncF (t : Int) (f : PF) (us : List ByteArray) : PF := fun k => if inU us k then (foldU t f us).1 k else none
theorem inU_snoc (us : List ByteArray) {n : Nat} (h : n < us.length) : inU (us.take (n + 1)) = fun k => decide (k = us[n]) || inU (us.take n) k := by
  funext k
  unfold inU
  rw [List.take_succ_eq_append_getElem h, List.any_append]
  simp only [List.any_cons, List.any_nil, Bool.or_false]
  rw [Bool.or_comm]
  congr 1
  simp [eq_comm]
theorem keyOf9_inv {x : ByteArray} {l : Lit} (h : keyOf Try.prog 9 (.string x) = some l) : l = kl x ∧ x.size ≤ maxLen := by
  obtain ⟨y, e, hl, hs⟩ := Maps.keyOf_str Try.underlying9 h
  simp only [encStr, Value.string.injEq] at e
  subst e
  exact ⟨by rw [hl]; simp [kl], by simpa [ByteArray.size] using hs⟩
theorem key_string (key : Value) (l : Lit) (h : keyOf Try.prog 9 key = some l) : ∃ x : ByteArray, key = .string x := by
  obtain ⟨x, e, _⟩ := Maps.keyOf_str Try.underlying9 h
  exact ⟨_, e⟩
theorem kl_same (a b : ByteArray) : (kl a).sameKey (kl b) = decide (a = b) := by
  by_cases e : a = b
  · subst e
    simp [kl, Lit.sameKey]
  · rw [Maps.sameKey_ne (kl_ne e)]
    simp [e]
theorem Np.of_grown {w w' : World} (g : w.grownBy w' none) : Np w w' := ⟨g.size, fun i o ho _ => by
  rw [g.block i (Array.getElem?_eq_some_iff.1 ho).1 (by simp)]
  exact ho⟩
theorem Np.of_iter {w w' : World} {R : Value → Option (DataW Value × List MemPlace)} {m r n : Nat} {D : DataW Value} {left : Lit → Bool} {cnt : Nat} (h : w.ranges Try.prog 9 R m r n D left cnt) (g : w.grownBy w' (some r)) : Np w w' := ⟨g.size, fun i o ho hk => by
  obtain ⟨es, clock, since, seen, c0, _, _, _, _, hr, _⟩ := h
  rw [g.block i (Array.getElem?_eq_some_iff.1 ho).1 (fun e => by
    cases e
    rw [hr] at ho
    cases ho
    exact hk)]
  exact ho⟩
/-- What is left of the feeds, as the range goes on. -/
def LeftF (left : Lit → Bool) (us : List ByteArray) (f1 fc : PF) : Prop := ∀ k, fc k = if left (kl k) || inU us k then f1 k else none
theorem LeftF.start {us : List ByteArray} {f1 : PF} {D : DataW Value} (h : ∀ k, Maps.has D (kl k) = (f1 k).isSome) : LeftF (Maps.has D) us f1 f1 := fun k => by
  rw [h k]
  cases f1 k <;> simp
theorem LeftF.stays {left : Lit → Bool} {us : List ByteArray} {f1 fc : PF} (h : LeftF left us f1 fc) {x : ByteArray} (hx : inU us x = true) : LeftF (fun z => left z && !z.sameKey (kl x)) us f1 fc := fun k => by
  show _ = if (left (kl k) && !(kl k).sameKey (kl x) || inU us k) = true then f1 k else none
  rw [h k, kl_same]
  by_cases e : k = x
  · subst e; simp [hx]
  · simp [e]
theorem LeftF.goes {left : Lit → Bool} {us : List ByteArray} {f1 fc : PF} (h : LeftF left us f1 fc) {x : ByteArray} (hx : inU us x = false) : LeftF (fun z => left z && !z.sameKey (kl x)) us f1 (upd fc x none) := fun k => by
  show _ = if (left (kl k) && !(kl k).sameKey (kl x) || inU us k) = true then f1 k else none
  rw [kl_same]
  by_cases e : k = x
  · subst e; rw [upd_same]; simp [hx]
  · rw [upd_other _ e, h k]; simp [e]
theorem LeftF.done {left : Lit → Bool} {us : List ByteArray} {t : Int} {f fc : PF} (h : LeftF left us (foldU t f us).1 fc) (hl : ∀ l, left l = false) : fc = syncF t f us := by
  funext k
  rw [h k, hl]
  rfl
set_option maxHeartbeats 4000000 in
theorem p_Sync.calls {B N p m : Nat} {t : Int} {f : PF} {w : World} (h : PA B N p m t f w) (now : Int) {A : Option Addr} {c : Nat} {us : List ByteArray} (hC : ∀ w', Kp B w w' → Kd.string.C w' A us.length us) (hU : ∀ u ∈ us, u.size ≤ maxLen) (hN : N + us.length ≤ 100000) :
    Calls Try.prog 8 #[.pointer (some ⟨p, 0, none⟩), .int .i64 now, .slice A us.length c] w fun e w' => e = .returned (.int .i64 (foldU (ltr t now) f us).2) ∧ PA B (N + us.length) p m (ltr t now) (syncF (ltr t now) f us) w' ∧ Kp B w w' := by
  have hk := p_ok.calls h
  have hl := p_later.calls h now
  have HC := Aside0.mk hC
  have HU := Aside0.mk hU
  have HN := Aside0.mk hN
  have hmm := @run_makeMap Try.prog
  obtain ⟨t1, hT⟩ : ∃ t1, t1 = ltr t now := ⟨_, rfl⟩
  rw [← hT] at hl ⊢
  clear h hC hU hN hT
  go_enter Try.func8, Try.ntmps8
  go_wp2_with fail
  refine hk.mono ?_
  rintro e w1 ⟨rfl, rfl⟩
  go_wp2_with fail
  refine hl.mono ?_
  rintro e w2 ⟨rfl, hP, hK⟩
  have hS : SetAt w2.heap.size 0 (inU (us.take 0)) (w2.alloc (.map #[] 0)) := ⟨_, World.ownsMap_made _ _ _ _, fun k => rfl⟩
  have hb := below_alloc (Below.refl _ w2) (.map #[] 0)
  have hP2 := hP.below hb
  have hm2 : m < w2.heap.size := by
    obtain ⟨b, D, h⟩ := hP
    exact h.own.lt
  obtain ⟨sb, hsb⟩ : ∃ sb, sb = w2.heap.size := ⟨_, rfl⟩
  obtain ⟨w3, hw3⟩ : ∃ w3, w3 = w2.alloc (.map #[] 0) := ⟨_, rfl⟩
  have hK3 : Kp B w1 w3 := by rw [hw3]; exact hK.trans (Kp.of_below hb)
  rw [← hsb] at hS hm2
  rw [← hw3] at hS hP2
  have HSB := Aside0.mk (show w1.heap.size ≤ sb ∧ m < sb from ⟨hsb ▸ hK.size, hm2⟩)
  have HS0 := Aside0.mk hS
  have HP0 := Aside0.mk (show PA B (N + 0) p m t1 (foldU t1 f (us.take 0)).1 w3 from hP2)
  have HK0 := Aside0.mk hK3
  clear hk hl hP hK hS hb hP2 hm2 hK3
  replace hsb := hsb.symm
  replace hw3 := hw3.symm
  go_wp2_with fail
  go_loopw [21, 8] (fun j v wr => ∃ n : Nat, n ≤ us.length ∧ j = .int .i64 n ∧ v = .int .i64 (foldU t1 f (us.take n)).2 ∧ Aside0 (SetAt sb n (inU (us.take n)) wr) ∧ Aside0 (PA B (N + n) p m t1 (foldU t1 f (us.take n)).1 wr) ∧ Aside0 (Kp B w1 wr)) (fun j _ _ => us.length - (intOf j).toNat)
  case atStart => exact ⟨0, Nat.zero_le _, rfl, rfl, HS0, HP0, HK0⟩
  case round =>
    clear HS0 HP0 HK0
    obtain ⟨n, hn, rfl, rfl, HS, HP, HK⟩ := hrel
    by_cases hlt : n < us.length
    · obtain ⟨ad, rfl, hcs⟩ := Kd.C_strings_cells (HC.out _ HK.out) (by omega)
      have hx0 : wr.cell? (ad.add n) = some (.string us[n]) := hcs n _ (List.getElem?_eq_getElem hlt)
      have hsz := HU.out _ (List.getElem_mem hlt)
      have HFN := Aside0.mk (foldU_snoc t1 f us hlt)
      have HIN := Aside0.mk (inU_snoc us hlt)
      generalize us[n] = s at hx0 hsz HFN HIN
      obtain ⟨Ds, hso, hsa⟩ := HS.out.ex
      have HLT := Aside0.mk (show n < us.length ∧ n < maxLen ∧ N + n < maxLen from ⟨hlt, by have := HN.out; unfold maxLen; omega, by have := HN.out; unfold maxLen; omega⟩)
      have en : wrap64 ((n : Int) + 1) = ((n + 1 : Nat) : Int) := w64n (by have := HN.out; omega)
      have hct := foldU_count t1 f (us.take n)
      have ec : wrap64 (((foldU t1 f (us.take n)).2 : Int) + 1) = (((foldU t1 f (us.take n)).2 + 1 : Nat) : Int) := w64n (by have := HN.out; have := List.length_take_le n us; omega)
      have HSA := Aside0.mk hsa
      have HSO := Aside0.mk hso
      have HSZ := Aside0.mk hsz
      clear hcs hsa hct
      obtain ⟨es, cl, hmp⟩ := HS.out.map
      have HMP := Aside0.mk hmp
      clear hmp
      cases hfs : (foldU t1 f (us.take n)).1 s with
      | some fx =>
        go_wp2_with (at_mapUpdate; refine wpList_mapUpdate_own _ rfl _ _ _ 54 rfl 9 4 key9 Try.underlying54 RV sb n Ds rfl hso HLT.out.2.1 _ _ _ rfl rfl (keyOf9 hsz) (.held (.bool true)) [] rfl ?_; intro w4 ho4 hg4; have HO4 := Aside0.mk ho4; have HG4 := Aside0.mk hg4; obtain ⟨b, D, hP4⟩ := PA.other HP.out HMP.out (Nat.ne_of_gt HSB.out.2) hg4; have x1 : w4.cell? ⟨p, 1, none⟩ = some (.map (some m)) := hP4.pl.cell 1; have x0 : w4.cell? ⟨p, 0, none⟩ = some (.int .i64 t1) := hP4.pl.cell 0; have hlk := hP4.look1 HSZ.out hfs; have HP4 := Aside0.mk hP4; clear ho4 hg4 hP4)
        rw [en]
        go_roundw
        case rel => exact ⟨n + 1, HLT.out.1, rfl, by rw [HFN.out]; unfold stepU; rw [hfs], ⟨by rw [HIN.out]; exact SetAt.put HSO.out HSA.out HO4.out⟩, ⟨by rw [HFN.out]; unfold stepU; rw [hfs]; exact PA.mono ⟨b, D, HP4.out⟩ (by omega)⟩, ⟨HK.out.grown HG4.out (fun j hj => by cases hj; exact .inl HSB.out.1)⟩⟩
        case measure => simp [intOf]; omega
      | none =>
        go_wp2_with (at_mapUpdate; refine wpList_mapUpdate_own _ rfl _ _ _ 54 rfl 9 4 key9 Try.underlying54 RV sb n Ds rfl hso HLT.out.2.1 _ _ _ rfl rfl (keyOf9 hsz) (.held (.bool true)) [] rfl ?_; intro w4 ho4 hg4; have HO4 := Aside0.mk ho4; have HG4 := Aside0.mk hg4; obtain ⟨b, D, hP4⟩ := PA.other HP.out HMP.out (Nat.ne_of_gt HSB.out.2) hg4; have x1 : w4.cell? ⟨p, 1, none⟩ = some (.map (some m)) := hP4.pl.cell 1; have x0 : w4.cell? ⟨p, 0, none⟩ = some (.int .i64 t1) := hP4.pl.cell 0; have hlk := hP4.look0 HSZ.out hfs; have HP4 := Aside0.mk hP4; clear ho4 hg4 hP4)
        obtain ⟨g, hg⟩ : ∃ g, g = w4.heap.size := ⟨_, rfl⟩
        obtain ⟨W5, hW5⟩ : ∃ W5, W5 = (w4.alloc (.cells #[.int .i64 t1, .int .i64 0, .int .i64 (-1)] 57)).drew := ⟨_, rfl⟩
        have hb5 : Below w4.heap.size w4 W5 := by rw [hW5]; exact below_drew (below_alloc (Below.refl _ _) _)
        have hx5 : Blk.At g (fdC ⟨t1, 0, -1⟩) 57 W5 := by rw [hW5, hg]; exact (Blk.At.new w4 _ 57).drew
        have hP5 := HP4.out.np (Np.of_below hb5)
        have z1 : W5.cell? ⟨p, 1, none⟩ = some (.map (some m)) := hP5.pl.cell 1
        have z0 : W5.cell? ⟨p, 0, none⟩ = some (.int .i64 t1) := hP5.pl.cell 0
        obtain ⟨w6, hrun6, ho6, hg6⟩ := hP5.own.store key9 Try.underlying47 HLT.out.2.2 (keyOf9 HSZ.out) (val := .pointer (some ⟨g, 0, none⟩)) (d := .held (.pointer (some ⟨g, 0, none⟩))) (ps := []) rfl
        have hg6' := hg6.grown
        have hP6 := hP5.put (g := g) (x := ⟨t1, 0, -1⟩) (w' := w6) hfs (by
          rw [hg]
          exact Nat.le_trans (Nat.le_succ_of_le HP4.out.mB) HP4.out.own.lt) (fun k y hk => by
          have := (HP4.out.blk k y hk).lt
          omega) (by
          refine (hg6'.block g hx5.lt (fun e => ?_)).trans hx5
          have := HP4.out.own.lt
          cases e
          omega) ho6 (fun i o hi hne _ => (hg6'.block i (Array.getElem?_eq_some_iff.1 hi).1 (fun e => hne (by cases e; rfl))).trans hi)
        have HP6 := Aside0.mk (show PA B (N + n + 1) p m t1 _ w6 from ⟨_, _, hP6⟩)
        have HS6 := Aside0.mk (((SetAt.put HSO.out HSA.out HO4.out).kept (grownBy_none hb5) (by simp)).kept hg6' (fun e => by
          have := HSB.out.2
          cases e
          omega))
        have HK6 := Aside0.mk (((HK.out.grown HG4.out (fun j hj => by cases hj; exact .inl HSB.out.1)).trans (Kp.of_below hb5)).trans (Kp.turned hg6 HP4.out.mB))
        clear hb5 hx5 hP5 ho6 hg6 hg6' hP6
        replace hW5 := hW5.symm
        replace hg := hg.symm
        refine start_ (n := 12) (S := fun w' => w'.cell? ⟨p, 1, none⟩ = some (.map (some m)) ∧ w'.cell? ⟨p, 0, none⟩ = some (.int .i64 t1)) (ds := [11]) #[false, false, false, false, false, false, false, false, false, false, false, false] (by kernel_rfl) rfl rfl ⟨x1, x0⟩ (fun hHeld => ?_)
        refine pure_ (i := 0) (N := some 34) (v := ?_) (a' := ?_) #[true, false, false, false, false, false, false, false, false, false, false, false] rfl rfl (by kernel_rfl) (fun _ _ _ h => h) (Or.inl ⟨by rfl, ?_⟩) ?_ ?_
        rotate_left
        · intro w'
          go_simp
          with_reducible rfl
        rotate_left
        · simp only [Act.put, List.setIfInBounds_toArray, List.set_cons_zero, List.set_cons_succ, i64_w, i32_w]
          rfl
        refine pure_ (i := 1) (N := some 35) (v := ?_) (a' := ?_) #[true, true, false, false, false, false, false, false, false, false, false, false] rfl rfl (by kernel_rfl) (fun _ _ _ h => h) (Or.inl ⟨by rfl, ?_⟩) ?_ ?_
        rotate_left
        · intro w'
          go_simp
          with_reducible rfl
        rotate_left
        · simp only [Act.put, List.setIfInBounds_toArray, List.set_cons_zero, List.set_cons_succ, i64_w, i32_w]
          rfl
        refine pure_ (i := 2) (N := some 36) (v := ?_) (a' := ?_) #[true, true, true, false, false, false, false, false, false, false, false, false] rfl rfl (by kernel_rfl) (fun _ _ _ h => h) (Or.inl ⟨by rfl, ?_⟩) ?_ ?_
        rotate_left
        · intro w'
          go_simp
          with_reducible rfl
        rotate_left
        · simp only [Act.put, List.setIfInBounds_toArray, List.set_cons_zero, List.set_cons_succ, i64_w, i32_w]
          rfl
        refine pure_ (i := 4) (N := some 38) (v := ?_) (a' := ?_) #[true, true, true, false, true, false, false, false, false, false, false, false] rfl rfl (by kernel_rfl) (fun _ _ _ h => h) (Or.inl ⟨by rfl, ?_⟩) ?_ ?_
        rotate_left
        · intro w'
          go_simp
          with_reducible rfl
        rotate_left
        · simp only [Act.put, List.setIfInBounds_toArray, List.set_cons_zero, List.set_cons_succ, i64_w, i32_w]
          rfl
        refine pure_ (i := 5) (N := some 39) (v := ?_) (a' := ?_) #[true, true, true, false, true, true, false, false, false, false, false, false] rfl rfl (by kernel_rfl) (fun _ _ _ h => h) (Or.inl ⟨by rfl, ?_⟩) ?_ ?_
        rotate_left
        · intro w'
          go_simp
          with_reducible rfl
        rotate_left
        · simp only [Act.put, List.setIfInBounds_toArray, List.set_cons_zero, List.set_cons_succ, i64_w, i32_w]
          rfl
        refine pure_ (i := 6) (N := some 40) (v := ?_) (a' := ?_) #[true, true, true, false, true, true, true, false, false, false, false, false] rfl rfl (by kernel_rfl) (fun _ _ _ h => h) (Or.inl ⟨by rfl, ?_⟩) ?_ ?_
        rotate_left
        · intro w'
          go_simp
          with_reducible rfl
        rotate_left
        · simp only [Act.put, List.setIfInBounds_toArray, List.set_cons_zero, List.set_cons_succ, i64_w, i32_w]
          rfl
        refine pure_ (i := 7) (N := some 41) (v := ?_) (a' := ?_) #[true, true, true, false, true, true, true, true, false, false, false, false] rfl rfl (by kernel_rfl) (fun _ _ _ h => h) (Or.inl ⟨by rfl, ?_⟩) ?_ ?_
        rotate_left
        · intro w'
          go_simp
          with_reducible rfl
        rotate_left
        · simp only [Act.put, List.setIfInBounds_toArray, List.set_cons_zero, List.set_cons_succ, i64_w, i32_w]
          rfl
        refine take_ (i := 3) (N := some 37) (v := ?_) (a' := ?_) #[true, true, true, true, true, true, true, true, false, false, false, false] rfl rfl (by kernel_rfl) (fun _ _ _ h => h) (Or.inl ⟨by rfl, ?_⟩) hHeld ?_ ?_
        rotate_left
        · rintro w' ⟨s0, s1⟩
          go_simp
          with_reducible rfl
        rotate_left
        · simp only [Act.put, List.setIfInBounds_toArray, List.set_cons_zero, List.set_cons_succ, i64_w, i32_w]
          rfl
        refine take_ (i := 8) (N := some 42) (v := ?_) (a' := ?_) #[true, true, true, true, true, true, true, true, true, false, false, false] rfl rfl (by kernel_rfl) (fun _ _ _ h => h) (Or.inl ⟨by rfl, ?_⟩) hHeld ?_ ?_
        rotate_left
        · rintro w' ⟨s0, s1⟩
          go_simp
          with_reducible rfl
        rotate_left
        · simp only [Act.put, List.setIfInBounds_toArray, List.set_cons_zero, List.set_cons_succ, i64_w, i32_w]
          rfl
        refine pure_ (i := 9) (N := some 43) (v := ?_) (a' := ?_) #[true, true, true, true, true, true, true, true, true, true, false, false] rfl rfl (by kernel_rfl) (fun _ _ _ h => h) (Or.inl ⟨by rfl, ?_⟩) ?_ ?_
        rotate_left
        · intro w'
          go_simp
          with_reducible rfl
        rotate_left
        · simp only [Act.put, List.setIfInBounds_toArray, List.set_cons_zero, List.set_cons_succ, i64_w, i32_w]
          rfl
        refine one_ (i := 10) (N := some 44) #[true, true, true, true, true, true, true, true, true, true, true, false] rfl rfl (by kernel_rfl) (by decide) (fun K hK => ?_)
        refine value_ (w1 := ?_) (v := ?_) (by rfl) rfl ?_ ?_
        rotate_left 2
        · go_simp
          constructor
          · rfl
          · rfl
        refine hK.out _ _ ⟨z1, z0⟩ (fun hHeld => ?_)
        clear hK K
        refine norm_ (a' := ?_) ?_ ?_
        rotate_left
        · show Act.put _ (some 44) _ = _
          simp only [Act.put, List.setIfInBounds_toArray, List.set_cons_zero, List.set_cons_succ, i64_w, i32_w]
          rfl
        refine last_ (i := 11) (N := none) #[true, true, true, true, true, true, true, true, true, true, true, true] rfl rfl (by kernel_rfl) (by decide) (fun K hK => ?_)
        refine skip_ (w1 := w6) (by rfl) rfl ?_ ?_
        · go_simp
          try rfl
        refine hK.out _ _ ?_
        clear hK K
        refine done_ (by kernel_rfl) ?_
        go_wp2_with fail
        rw [en, ec]
        exact ⟨⟨n + 1, HLT.out.1, rfl, by rw [HFN.out]; unfold stepU; rw [hfs], ⟨by rw [HIN.out]; exact HS6.out⟩, ⟨by rw [HFN.out]; unfold stepU; rw [hfs]; exact HP6.out⟩, HK6⟩, by simp [intOf]; omega⟩
    · obtain rfl : n = us.length := by omega
      rw [List.take_length] at *
      obtain ⟨b, D, hP⟩ := HP.out
      have x1 : wr.cell? ⟨p, 1, none⟩ = some (.map (some m)) := hP.pl.cell 1
      have hown := hP.own
      have HP1 := Aside0.mk hP
      obtain ⟨r, hr⟩ : ∃ r, r = wr.heap.size := ⟨_, rfl⟩
      have HR := Aside0.mk (show sb < r ∧ w1.heap.size ≤ r from by
        obtain ⟨es, cl, hmp⟩ := HS.out.map
        have := (Array.getElem?_eq_some_iff.1 hmp).1
        have := HK.out.size
        exact ⟨by omega, by omega⟩)
      clear hP HP
      go_wp2_with (at_range; refine wpList_range_own _ rfl _ 47 rfl 9 55 key9 Try.underlying47 RV m (N + us.length) D rfl hown ?_; intro wa hrg0 hg0 hs0; rw [← hr]; rw [← hr] at hrg0)
      go_frame
      have HRG0 := Aside0.mk hrg0
      have HPL0 := Aside0.mk (HP1.out.np (Np.of_grown hg0))
      have HST0 := Aside0.mk (HS.out.kept hg0 (by simp))
      have HKP0 := Aside0.mk (HK.out.grown hg0 (fun j hj => by cases hj))
      have HLF0 := Aside0.mk (LeftF.start (us := us) HP1.out.has)
      generalize hF1 : (foldU t1 f us).1 = f1 at HPL0 HLF0
      have HF1 := Aside0.mk hF1
      clear hrg0 hg0 hs0 hr hown x1 HS HK hF1
      go_loopw [11] (fun _ wq => ∃ left cnt Dc fc, Aside0 (wq.ranges Try.prog 9 RV m r (N + us.length) Dc left cnt) ∧ Aside0 (Pl B (N + us.length) p m b Dc t1 fc wq) ∧ Aside0 (LeftF left us f1 fc) ∧ Aside0 (SetAt sb us.length (inU us) wq) ∧ Aside0 (Kp B w1 wq)) (fun _ wq => wq.rangeLeft m r)
      case atStart => exact ⟨_, _, _, _, HRG0, HPL0, HLF0, HST0, HKP0⟩
      case round =>
        clear HRG0 HPL0 HLF0 HST0 HKP0
        obtain ⟨left, cnt, Dc, fc, HRG, HPL, HLF, HST, HKP⟩ := hrel
        have hrg := HRG.out
        go_wp2_with (at_next; refine wpList_next_ranges _ rfl _ rfl 9 key9 RV Value.string (fun v => v) key_string (fun v y _ => ⟨v, rfl⟩) m r (N + us.length) _ _ _ rfl hrg ?_ ?_)
        · intro hc0 hl0
          go_wp2_with fail
          go_ret
          have e1 := LeftF.done (t := t1) (f := f) (by rw [HF1.out]; exact HLF.out) hl0
          exact ⟨rfl, ⟨b, Dc, by rw [← e1]; exact HPL.out⟩, HKP.out⟩
        · intro x c kl' yd yp w5 cnt2 hkey hlk hv hat hrg2 hlt hg2 hs2 hen
          obtain ⟨rfl, hxs⟩ := keyOf9_inv hkey
          have hP5 := HPL.out.np (Np.of_iter hrg hg2)
          have hS5 := HST.out.kept hg2 (fun e => by
            have := HR.out.1
            cases e
            omega)
          have hK5 := HKP.out.grown hg2 (fun j hj => by cases hj; exact .inl HR.out.2)
          have hlk5 := hS5.look hxs
          have x1 : w5.cell? ⟨p, 1, none⟩ = some (.map (some m)) := hP5.pl.cell 1
          have HP5 := Aside0.mk hP5
          have HS5 := Aside0.mk hS5
          have HK5 := Aside0.mk hK5
          have HLT := Aside0.mk hlt
          have HXS := Aside0.mk hxs
          have HRG2 := Aside0.mk hrg2
          clear hP5 hS5 hK5 hlt hs2 hat hv hlk hg2 hkey
          cases hin : inU us x with
          | true =>
            rw [hin] at hlk5
            have HLF5 := Aside0.mk (HLF.out.stays hin)
            clear hrg2 hin
            go_wp2_with fail
            refine ⟨⟨_, _, _, _, HRG2, HP5, HLF5, HS5, HK5⟩, ?_⟩
            rw [HRG2.out.left_eq, hrg.left_eq]
            exact HLT.out
          | false =>
            rw [hin] at hlk5
            have HLF5 := Aside0.mk (HLF.out.goes hin)
            clear hin
            go_wp2_with (at_delete; refine wpList_delete_ranges _ rfl _ _ 47 9 rfl 55 key9 Try.underlying47 RV m r (N + us.length) _ _ _ rfl hrg2 _ _ rfl (keyOf9 HXS.out) ?_; intro w6 cnt3 hrg3 hle3 hturn3; go_frame)
            rw [Maps.strike_twice] at hrg3
            have hg3 := hturn3.grown
            have hP6 := HP5.out.del hrg3.owns (fun i o hi hne _ => (hg3.block i (Array.getElem?_eq_some_iff.1 hi).1 (fun e => hne (by cases e; rfl))).trans hi)
            refine ⟨⟨_, _, _, _, ⟨hrg3⟩, ⟨hP6⟩, HLF5, ⟨HS5.out.kept hg3 (fun e => by
              have := HSB.out.2
              cases e
              omega)⟩, ⟨HK5.out.trans (Kp.turned hturn3 HP5.out.mB)⟩⟩, ?_⟩
            rw [hrg3.left_eq, hrg.left_eq]
            exact Nat.lt_of_le_of_lt hle3 HLT.out
end Go.Proofs.Ytomkjakffpomdaa.Q
