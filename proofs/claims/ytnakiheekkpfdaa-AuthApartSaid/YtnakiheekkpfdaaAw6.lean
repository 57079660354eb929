/- The law of desks apart, walked. No condition but those typed. -/
import Derived.Test.YtnakiheekkpfdaaAw5
namespace Go.Proofs.Ytnakiheekkpfdaa.Q
open Go.RowKit Go.Maps Go.Sort Go.Shelf Go.Proofs.YtnakiheekkpfdaaW.PrintWords Go.Proofs.YtnakiheekkpfdaaW.PrintLast Go.Proofs.YtnakiheekkpfdaaW.PrintMore
attribute [local go_sem] max2_int min2_int max_two min_two max_three min_three max_four min_four   -- for this text's walks alone
set_option linter.unusedVariables false
set_option linter.unusedSimpArgs false
set_option maxRecDepth 100000
/-! ### Two desks, plain -/
def expdO (t : Int) (o : Option Tok) : Option Tok := match o with | some x => if x.til ≤ t then none else some x | none => none
theorem expdO_twice (t : Int) (o : Option Tok) : expdO t (expdO t o) = expdO t o := by
  unfold expdO
  cases o with
  | none => rfl
  | some x =>
    by_cases h : x.til ≤ t
    · simp [h]
    · simp [h]
def verdO (o : Option Tok) (text sc : ByteArray) : Int := if text = ⟨#[]⟩ then 2 else match o with | some x => vd x sc | none => 4
/-- What a desk knows of a token: the token, and whether it is asked for. -/
def vw (tok : ByteArray) (kn : KF) (qs : AF) : Option Tok × Bool := (kn tok, (qs tok).isSome)
def knowO (t : Int) (o : Option Tok) (x : Tok) : Option Tok := if x.til ≤ t then o else some x
def stepT (now : Int) (a : Ac) (tok : ByteArray) (V : Option Tok × Bool) : Option Tok × Bool :=
  if a.tok = tok then (if V.2 = true then (knowO now (expdO now V.1) (tokT now a.good a.sc a.left), false) else (expdO now V.1, false)) else (expdO now V.1, V.2)
def stepC (now : Int) (a : Ac) (tok : ByteArray) (V : Option Tok × Bool) : Option Tok × Bool :=
  if a.tok = tok ∧ verdO (expdO now V.1) tok a.sc = 4 then (expdO now V.1, true) else (expdO now V.1, V.2)
/-- What a call on a desk leaves. -/
def Left_ (F : Nat → Prop) (i p : Nat) (now : Int) (tok : ByteArray) (V : Option Tok × Bool) (w w' : World) : Prop :=
  ∃ N kn qs, DA (Gr F w) N p now kn qs w' ∧ Ku F w w' ∧ Inv i N kn qs ∧ vw tok kn qs = V
theorem ap_told {F : Nat → Prop} {i N p : Nat} {t now : Int} {kn : KF} {qs : AF} {w : World} (h : DA F N p t kn qs w) (hI : Inv i N kn qs) (hi : i ≤ 51) (ht : 0 ≤ t ∧ t ≤ now ∧ now ≤ 1099511627776) {a : Ac} (hs : a.tok.size ≤ maxLen) (hsm : cl9 a.tok + cl9 a.sc ≤ 9000) (tok : ByteArray) :
    Calls Try.prog 11 #[.pointer (some ⟨p, 0, none⟩), .int .i64 now, .string a.tok, .bool a.good, .string a.sc, .int .i64 a.left] w fun e w' => (∃ v, e = .returned v) ∧ Left_ F (i + 1) p now tok (stepT now a tok (vw tok kn qs)) w w' := by
  have hl := ltr_next ht.2.1 ht.2.2
  obtain ⟨n, h1, h2, h3, h4⟩ := inv_tot hI (Nat.le_trans hi (by decide))
  cases hq : qs a.tok with
  | none =>
    have hc := p_Told0.calls h now hs a.good a.sc a.left hq
    rw [hl] at hc
    refine hc.mono fun e w' ⟨e1, e2, e3⟩ => ⟨⟨_, e1⟩, _, _, _, e2.mono fun _ e => .inl e, e3, (hI.expd _).up, ?_⟩
    unfold stepT vw
    by_cases he : a.tok = tok
    · rw [if_pos he, ← he, hq]; rfl
    · rw [if_neg he]; rfl
  | some q =>
    have hk := hI.key _ _ hq
    have hsc := sc_small hsm hk.1
    have hc := p_Told1.calls h h4 now hs a.good hsc a.left hq (by omega)
    rw [hl] at hc
    refine hc.mono fun e w' ⟨v, e1, _, e2, e3⟩ => ⟨⟨_, e1⟩, _, _, _, e2.mono fun _ e => .inl e, e3, (hI.expd _).told _ _ _, ?_⟩
    unfold stepT vw
    by_cases he : a.tok = tok
    · rw [if_pos he, ← he, hq, upd_same, if_pos (show ((kn a.tok, (some q).isSome) : Option Tok × Bool).2 = true from rfl)]
      unfold knowT knowO
      split
      · rfl
      · rw [upd_same]; rfl
    · rw [if_neg he, upd_other _ (fun e => he e.symm)]
      unfold knowT
      split
      · rfl
      · rw [upd_other _ (fun e => he e.symm)]; rfl
theorem ap_check {F : Nat → Prop} {i N p : Nat} {t now : Int} {kn : KF} {qs : AF} {w : World} (h : DA F N p t kn qs w) (hI : Inv i N kn qs) (hi : i ≤ 51) (ht : 0 ≤ t ∧ t ≤ now ∧ now ≤ 1099511627776) {a : Ac} (hs : a.tok.size ≤ maxLen) (x : Int) (tok : ByteArray) :
    Calls Try.prog 15 #[.pointer (some ⟨p, 0, none⟩), .int .i64 now, .string a.tok, .string a.sc, .int .i64 x] w fun e w' => (∃ v, e = .returned v) ∧ Left_ F (i + 1) p now tok (stepC now a tok (vw tok kn qs)) w w' := by
  have hl := ltr_next ht.2.1 ht.2.2
  obtain ⟨n, h1, h2⟩ := hI.tot
  have hN := hI.nN
  have he0 : verd (expd now kn) a.tok a.sc = verdO (expdO now (kn a.tok)) a.tok a.sc := rfl
  by_cases hv : verd (expd (ltr t now) kn) a.tok a.sc = 4
  · have hc := p_Check2.calls h h1 (by omega) (by omega) (by omega) now hs a.sc x hv
    rw [hl] at hc hv
    refine hc.mono fun e w' ⟨e1, e2, e3⟩ => ⟨⟨_, e1⟩, _, _, _, e2, e3, (hI.expd _).check hv x, ?_⟩
    unfold stepC vw
    by_cases he : a.tok = tok
    · rw [if_pos ⟨he, by rw [← he]; exact he0.symm.trans hv⟩, ← he, upd_same]; rfl
    · rw [if_neg (fun e => he e.1), upd_other _ (fun e => he e.symm)]; rfl
  · have hc := p_Check0.calls h now hs a.sc x hv
    rw [hl] at hc hv
    refine hc.mono fun e w' ⟨e1, e2, e3⟩ => ⟨⟨_, e1⟩, _, _, _, e2.mono fun _ e => .inl e, e3, (hI.expd _).up, ?_⟩
    unfold stepC vw
    rw [if_neg fun e => hv (he0.trans (by rw [e.1]; exact e.2))]
    rfl
/-- Two desks that share no block. -/
def Jn (B pa pb ia ib : Nat) (ta now : Int) (tok : ByteArray) (Va Vb : Option Tok × Bool) (w0 w : World) : Prop :=
  ∃ (Fa Fb : Nat → Prop) (Na Nb : Nat) (tb : Int) (kna : KF) (qsa : AF) (knb : KF) (qsb : AF),
    ((∀ i, Fa i → B ≤ i ∧ i < w.heap.size ∧ ¬ Fb i) ∧ (∀ i, Fb i → B ≤ i ∧ i < w.heap.size)) ∧ (DA Fa Na pa ta kna qsa w ∧ Inv ia Na kna qsa ∧ (0 ≤ ta ∧ ta ≤ now) ∧ vw tok kna qsa = Va) ∧ (DA Fb Nb pb tb knb qsb w ∧ Inv ib Nb knb qsb ∧ (0 ≤ tb ∧ tb ≤ now) ∧ vw tok knb qsb = Vb) ∧ Below B w0 w ∧ B ≤ w.heap.size
theorem DA.tight {F : Nat → Prop} {N p : Nat} {t : Int} {kn : KF} {qs : AF} {w : World} (h : DA F N p t kn qs w) : DA (fun i => F i ∧ i < w.heap.size) N p t kn qs w := by
  obtain ⟨mk, ma, sv, lv, Dk, Da, h⟩ := h
  exact .of h.tight
section
variable {B pa pb ia ib : Nat} {ta now : Int} {tok : ByteArray} {Va Vb : Option Tok × Bool} {w0 w : World}
theorem jn_next_a {Fa Fb : Nat → Prop} {Nb : Nat} {tb : Int} {knb : KF} {qsb : AF} {V : Option Tok × Bool} {i : Nat} (hF : (∀ i, Fa i → B ≤ i ∧ i < w.heap.size ∧ ¬ Fb i) ∧ (∀ i, Fb i → B ≤ i ∧ i < w.heap.size)) (hb : DA Fb Nb pb tb knb qsb w ∧ Inv ib Nb knb qsb ∧ (0 ≤ tb ∧ tb ≤ now) ∧ vw tok knb qsb = Vb) (hB : Below B w0 w ∧ B ≤ w.heap.size) (h0 : 0 ≤ now) {w' : World} (h : Left_ Fa i pa now tok V w w') : Jn B pa pb i ib now now tok V Vb w0 w' ∧ Ku (fun i => B ≤ i) w w' := by
  obtain ⟨N, kn, qs, h1, h2, h3, h4⟩ := h
  have hku := h2.mono (G := fun i => B ≤ i) fun i hi => (hF.1 i hi).1
  refine ⟨⟨_, Fb, _, _, _, _, _, _, _, ⟨fun i hi => ?_, fun i hi => ⟨(hF.2 i hi).1, Nat.lt_of_lt_of_le (hF.2 i hi).2 h2.size⟩⟩, ⟨h1.tight, h3, ⟨h0, Int.le_refl _⟩, h4⟩, ⟨hb.1.st (h2.st fun i hi he => (hF.1 i he).2.2 hi), hb.2⟩, hB.1.trans (hku.below (fun i hi => hi) hB.2), Nat.le_trans hB.2 h2.size⟩, hku⟩
  obtain ⟨hi, hlt⟩ := hi
  rcases hi with hi | hi
  · exact ⟨(hF.1 i hi).1, hlt, (hF.1 i hi).2.2⟩
  · exact ⟨Nat.le_trans hB.2 hi, hlt, fun e => by have := (hF.2 i e).2; omega⟩
theorem jn_next_b {Fa Fb : Nat → Prop} {Na : Nat} {kna : KF} {qsa : AF} {V : Option Tok × Bool} {i : Nat} (hF : (∀ i, Fa i → B ≤ i ∧ i < w.heap.size ∧ ¬ Fb i) ∧ (∀ i, Fb i → B ≤ i ∧ i < w.heap.size)) (ha : DA Fa Na pa ta kna qsa w ∧ Inv ia Na kna qsa ∧ (0 ≤ ta ∧ ta ≤ now) ∧ vw tok kna qsa = Va) (hB : Below B w0 w ∧ B ≤ w.heap.size) (h0 : 0 ≤ now) {w' : World} (h : Left_ Fb i pb now tok V w w') : Jn B pa pb ia i ta now tok Va V w0 w' ∧ Ku (fun i => B ≤ i) w w' := by
  obtain ⟨N, kn, qs, h1, h2, h3, h4⟩ := h
  have hku := h2.mono (G := fun i => B ≤ i) fun i hi => (hF.2 i hi).1
  refine ⟨⟨Fa, _, _, _, _, _, _, _, _, ⟨fun i hi => ⟨(hF.1 i hi).1, Nat.lt_of_lt_of_le (hF.1 i hi).2.1 h2.size, fun e => ?_⟩, fun i hi => ?_⟩, ⟨ha.1.st (h2.st fun i hi he => (hF.1 i hi).2.2 he), ha.2⟩, ⟨h1.tight, h3, ⟨h0, Int.le_refl _⟩, h4⟩, hB.1.trans (hku.below (fun i hi => hi) hB.2), Nat.le_trans hB.2 h2.size⟩, hku⟩
  · rcases e.1 with e | e
    · exact (hF.1 i hi).2.2 e
    · have := (hF.1 i hi).2.1
      omega
  · obtain ⟨hi, hlt⟩ := hi
    rcases hi with hi | hi
    · exact ⟨(hF.2 i hi).1, hlt⟩
    · exact ⟨Nat.le_trans hB.2 hi, hlt⟩
theorem Jn.below (h : Jn B pa pb ia ib ta now tok Va Vb w0 w) {w' : World} (hb : Below w.heap.size w w') : Jn B pa pb ia ib ta now tok Va Vb w0 w' := by
  obtain ⟨Fa, Fb, Na, Nb, tb, kna, qsa, knb, qsb, hF, ha, hbb, h1, h2⟩ := h
  exact ⟨Fa, Fb, Na, Nb, tb, kna, qsa, knb, qsb, ⟨fun i hi => ⟨(hF.1 i hi).1, Nat.lt_of_lt_of_le (hF.1 i hi).2.1 hb.size, (hF.1 i hi).2.2⟩, fun i hi => ⟨(hF.2 i hi).1, Nat.lt_of_lt_of_le (hF.2 i hi).2 hb.size⟩⟩, ⟨ha.1.below hb, ha.2⟩, ⟨hbb.1.below hb, hbb.2⟩, h1.trans (hb.mono h2), Nat.le_trans h2 hb.size⟩
theorem Jn.later (h : Jn B pa pb ia ib ta now tok Va Vb w0 w) {now' : Int} (hn : now ≤ now') : Jn B pa pb ia ib ta now' tok Va Vb w0 w := by
  obtain ⟨Fa, Fb, Na, Nb, tb, kna, qsa, knb, qsb, hF, ha, hbb, h1⟩ := h
  exact ⟨Fa, Fb, Na, Nb, tb, kna, qsa, knb, qsb, hF, ⟨ha.1, ha.2.1, ⟨ha.2.2.1.1, Int.le_trans ha.2.2.1.2 hn⟩, ha.2.2.2⟩, ⟨hbb.1, hbb.2.1, ⟨hbb.2.2.1.1, Int.le_trans hbb.2.2.1.2 hn⟩, hbb.2.2.2⟩, h1⟩
theorem Jn.up (h : Jn B pa pb ia ib ta now tok Va Vb w0 w) : Jn B pa pb ia (ib + 1) ta now tok Va Vb w0 w := by
  obtain ⟨Fa, Fb, Na, Nb, tb, kna, qsa, knb, qsb, hF, ha, hbb, h1⟩ := h
  exact ⟨Fa, Fb, Na, Nb, tb, kna, qsa, knb, qsb, hF, ha, ⟨hbb.1, hbb.2.1.up, hbb.2.2⟩, h1⟩
theorem jn_told_a (h : Jn B pa pb ia ib ta now tok Va Vb w0 w) (hi : ia ≤ 51) (ht : now ≤ 1099511627776) {a : Ac} (hs : a.tok.size ≤ maxLen) (hsm : cl9 a.tok + cl9 a.sc ≤ 9000) :
    Calls Try.prog 11 #[.pointer (some ⟨pa, 0, none⟩), .int .i64 now, .string a.tok, .bool a.good, .string a.sc, .int .i64 a.left] w fun e w' => (∃ v, e = .returned v) ∧ Jn B pa pb (ia + 1) ib now now tok (stepT now a tok Va) Vb w0 w' ∧ Ku (fun i => B ≤ i) w w' := by
  obtain ⟨Fa, Fb, Na, Nb, tb, kna, qsa, knb, qsb, hF, ha, hbb, h1, h2⟩ := h
  have hc := ap_told ha.1 ha.2.1 hi ⟨ha.2.2.1.1, ha.2.2.1.2, ht⟩ hs hsm tok
  rw [ha.2.2.2] at hc
  exact hc.mono fun e w' ⟨e1, e2⟩ => ⟨e1, jn_next_a hF hbb ⟨h1, h2⟩ (by omega) e2⟩
theorem jn_told_b (h : Jn B pa pb ia ib ta now tok Va Vb w0 w) (hi : ib ≤ 51) (ht : now ≤ 1099511627776) {a : Ac} (hs : a.tok.size ≤ maxLen) (hsm : cl9 a.tok + cl9 a.sc ≤ 9000) :
    Calls Try.prog 11 #[.pointer (some ⟨pb, 0, none⟩), .int .i64 now, .string a.tok, .bool a.good, .string a.sc, .int .i64 a.left] w fun e w' => (∃ v, e = .returned v) ∧ Jn B pa pb ia (ib + 1) ta now tok Va (stepT now a tok Vb) w0 w' ∧ Ku (fun i => B ≤ i) w w' := by
  obtain ⟨Fa, Fb, Na, Nb, tb, kna, qsa, knb, qsb, hF, ha, hbb, h1, h2⟩ := h
  have hc := ap_told hbb.1 hbb.2.1 hi ⟨hbb.2.2.1.1, hbb.2.2.1.2, ht⟩ hs hsm tok
  rw [hbb.2.2.2] at hc
  exact hc.mono fun e w' ⟨e1, e2⟩ => ⟨e1, jn_next_b hF ha ⟨h1, h2⟩ (by omega) e2⟩
theorem jn_check_a (h : Jn B pa pb ia ib ta now tok Va Vb w0 w) (hi : ia ≤ 51) (ht : now ≤ 1099511627776) {a : Ac} (hs : a.tok.size ≤ maxLen) (x : Int) :
    Calls Try.prog 15 #[.pointer (some ⟨pa, 0, none⟩), .int .i64 now, .string a.tok, .string a.sc, .int .i64 x] w fun e w' => (∃ v, e = .returned v) ∧ Jn B pa pb (ia + 1) ib now now tok (stepC now a tok Va) Vb w0 w' ∧ Ku (fun i => B ≤ i) w w' := by
  obtain ⟨Fa, Fb, Na, Nb, tb, kna, qsa, knb, qsb, hF, ha, hbb, h1, h2⟩ := h
  have hc := ap_check ha.1 ha.2.1 hi ⟨ha.2.2.1.1, ha.2.2.1.2, ht⟩ hs x tok
  rw [ha.2.2.2] at hc
  exact hc.mono fun e w' ⟨e1, e2⟩ => ⟨e1, jn_next_a hF hbb ⟨h1, h2⟩ (by omega) e2⟩
theorem jn_check_b (h : Jn B pa pb ia ib ta now tok Va Vb w0 w) (hi : ib ≤ 51) (ht : now ≤ 1099511627776) {a : Ac} (hs : a.tok.size ≤ maxLen) (x : Int) :
    Calls Try.prog 15 #[.pointer (some ⟨pb, 0, none⟩), .int .i64 now, .string a.tok, .string a.sc, .int .i64 x] w fun e w' => (∃ v, e = .returned v) ∧ Jn B pa pb ia (ib + 1) ta now tok Va (stepC now a tok Vb) w0 w' ∧ Ku (fun i => B ≤ i) w w' := by
  obtain ⟨Fa, Fb, Na, Nb, tb, kna, qsa, knb, qsb, hF, ha, hbb, h1, h2⟩ := h
  have hc := ap_check hbb.1 hbb.2.1 hi ⟨hbb.2.2.1.1, hbb.2.2.1.2, ht⟩ hs x tok
  rw [hbb.2.2.2] at hc
  exact hc.mono fun e w' ⟨e1, e2⟩ => ⟨e1, jn_next_b hF ha ⟨h1, h2⟩ (by omega) e2⟩
theorem jn_verd_a (h : Jn B pa pb ia ib ta now tok Va Vb w0 w) (ht : now ≤ 1099511627776) (hs : tok.size ≤ maxLen) (sc : ByteArray) :
    Calls Try.prog 16 #[.pointer (some ⟨pa, 0, none⟩), .int .i64 now, .string tok, .string sc] w fun e w' => e = .returned (.int .i64 (verdO (expdO now Va.1) tok sc)) ∧ Jn B pa pb ia ib now now tok (expdO now Va.1, Va.2) Vb w0 w' ∧ Ku (fun i => B ≤ i) w w' := by
  obtain ⟨Fa, Fb, Na, Nb, tb, kna, qsa, knb, qsb, hF, ha, hbb, h1, h2⟩ := h
  have hc := p_Verdict.calls ha.1 now hs sc
  rw [ltr_next ha.2.2.1.2 ht] at hc
  have hv := ha.2.2.2
  subst hv
  exact hc.mono fun e w' ⟨e1, e2, e3⟩ => ⟨e1, jn_next_a hF hbb ⟨h1, h2⟩ (by omega) ⟨_, _, _, e2.mono fun _ e => .inl e, e3, ha.2.1.expd _, rfl⟩⟩
theorem jn_verd_b (h : Jn B pa pb ia ib ta now tok Va Vb w0 w) (ht : now ≤ 1099511627776) (hs : tok.size ≤ maxLen) (sc : ByteArray) :
    Calls Try.prog 16 #[.pointer (some ⟨pb, 0, none⟩), .int .i64 now, .string tok, .string sc] w fun e w' => e = .returned (.int .i64 (verdO (expdO now Vb.1) tok sc)) ∧ Jn B pa pb ia ib ta now tok Va (expdO now Vb.1, Vb.2) w0 w' ∧ Ku (fun i => B ≤ i) w w' := by
  obtain ⟨Fa, Fb, Na, Nb, tb, kna, qsa, knb, qsb, hF, ha, hbb, h1, h2⟩ := h
  have hc := p_Verdict.calls hbb.1 now hs sc
  rw [ltr_next hbb.2.2.1.2 ht] at hc
  have hv := hbb.2.2.2
  subst hv
  exact hc.mono fun e w' ⟨e1, e2, e3⟩ => ⟨e1, jn_next_b hF ha ⟨h1, h2⟩ (by omega) ⟨_, _, _, e2.mono fun _ e => .inl e, e3, hbb.2.1.expd _, rfl⟩⟩
theorem jn_now (h : Jn B pa pb ia ib ta now tok Va Vb w0 w) : Calls Try.prog 10 #[.pointer (some ⟨pa, 0, none⟩)] w fun e w' => e = .returned (.int .i64 ta) ∧ w' = w := by
  obtain ⟨Fa, Fb, Na, Nb, tb, kna, qsa, knb, qsb, hF, ha, hbb, h1, h2⟩ := h
  exact p_Now.calls ha.1
theorem Jn.ku (h : Jn B pa pb ia ib ta now tok Va Vb w0 w) : Below B w0 w ∧ B ≤ w.heap.size := by
  obtain ⟨Fa, Fb, Na, Nb, tb, kna, qsa, knb, qsb, hF, ha, hbb, h1⟩ := h
  exact h1
end
/-- What an act does to what is known. -/
def stp (kd now : Int) (a : Ac) (tok : ByteArray) (V : Option Tok × Bool) : Option Tok × Bool := if kd = 1 then stepT now a tok V else stepC now a tok V
theorem stp_other {kd now : Int} {a : Ac} {tok : ByteArray} (h : a.tok ≠ tok) (V : Option Tok × Bool) : stp kd now a tok V = (expdO now V.1, V.2) := by
  unfold stp stepT stepC
  by_cases hk : kd = 1
  · rw [if_pos hk, if_neg h]
  · rw [if_neg hk, if_neg fun e => h e.1]
theorem ap_eq (kd now : Int) (a : Ac) (tok : ByteArray) (V : Option Tok × Bool) : expdO now (if a.tok = tok then stp kd now a tok V else V).1 = expdO now (stp kd now a tok V).1 ∧ (if a.tok = tok then stp kd now a tok V else V).2 = (stp kd now a tok V).2 := by
  by_cases h : a.tok = tok
  · rw [if_pos h]
    exact ⟨rfl, rfl⟩
  · rw [if_neg h, stp_other h]
    exact ⟨(expdO_twice _ _).symm, rfl⟩
/-- A list of two desks, and an act, as they lie. -/
structure Two (pa pb g g2 : Nat) (a : Ac) (w : World) : Prop where
  act : Blk.At g (av a) 29 w
  lst : Blk.At g2 #[.pointer (some ⟨pa, 0, none⟩), .pointer (some ⟨pb, 0, none⟩)] 23 w
theorem Two.ku {pa pb g g2 B : Nat} {a : Ac} {w w' : World} (h : Two pa pb g g2 a w) (hk : Ku (fun i => B ≤ i) w w') : Two pa pb g g2 a w' := ⟨At.ku h.act (by decide) (by decide) hk, At.ku h.lst (by decide) (by decide) hk⟩
theorem ap_new {w w1 w2 : World} {tok : ByteArray} (h1 : DA (fun i => w.heap.size ≤ i) 0 (w.heap.size + 2) 0 (fun _ => none) (fun _ => none) w1) (hb1 : Below w.heap.size w w1) (h2 : DA (fun i => w1.heap.size ≤ i) 0 (w1.heap.size + 2) 0 (fun _ => none) (fun _ => none) w2) (hb2 : Below w1.heap.size w1 w2) :
    Jn w.heap.size (w.heap.size + 2) (w1.heap.size + 2) 0 0 0 0 tok (none, false) (none, false) w w2 :=
  ⟨_, _, 0, 0, 0, _, _, _, _, ⟨fun i hi => ⟨hi.1, Nat.lt_of_lt_of_le hi.2 hb2.size, fun e => by have := hi.2; have := e.1; omega⟩, fun i hi => ⟨Nat.le_trans hb1.size hi.1, hi.2⟩⟩, ⟨h1.tight.below hb2, ⟨Nat.le_refl _, ⟨0, Tot.none_, Nat.le_refl _⟩, fun k l h => by (cases h)⟩, ⟨Int.le_refl _, Int.le_refl _⟩, rfl⟩, ⟨h2.tight, ⟨Nat.le_refl _, ⟨0, Tot.none_, Nat.le_refl _⟩, fun k l h => by (cases h)⟩, ⟨Int.le_refl _, Int.le_refl _⟩, rfl⟩, hb1.trans (hb2.mono hb1.size), Nat.le_trans hb1.size hb2.size⟩
/-- A dead desk in a list of two, as they lie. -/
structure DeadAt (v : Value) (w0 w : World) : Prop where
  dead : Dead v w
  low : Below w0.heap.size w0 w
theorem DeadAt.below {v : Value} {w0 w w' : World} (h : DeadAt v w0 w) (hb : Below w.heap.size w w') : DeadAt v w0 w' := ⟨h.dead.below hb, h.low.trans (hb.mono h.low.size)⟩
theorem ap_meas {n m : Nat} (h : n + 1 ≤ m) : m - (intOf (Value.int .i64 ((n : Int) + 1))).toNat < m - (intOf (Value.int .i64 (n : Int))).toNat := by
  simp [intOf]
  omega
set_option maxHeartbeats 16000000 in
theorem law_Apart.calls {w : World} {A : Option Addr} {c : Nat} {l : List Ac} (hC : dA.C w A l.length l) (hc : l.length ≤ c) (hG : ∀ a ∈ l, (0 ≤ a.kind ∧ a.kind < 256) ∧ a.tok.size ≤ maxLen) {tok : ByteArray} (htok : tok.size ≤ maxLen) :
    Calls Try.prog 5 #[.slice A l.length c, .string tok] w fun e w' => e = .returned (.bool true) ∧ Below w.heap.size w w' := by
  have hN := p_New.calls w 0
  obtain ⟨B, hBe⟩ : ∃ B, B = w.heap.size := ⟨_, rfl⟩
  have HBE := Aside0.mk hBe
  have HC := Aside0.mk hC
  have HG := Aside0.mk hG
  have HT := Aside0.mk htok
  have HCC := Aside0.mk hc
  have HS := Aside0.mk (law_short.calls (A := A) hc)
  obtain ⟨m, hm⟩ : ∃ m, m = sh l.length := ⟨_, rfl⟩
  have HM := Aside0.mk (show m ≤ l.length ∧ m ≤ 100 from by rw [hm]; unfold sh; split <;> omega)
  have HMS := Aside0.mk hm
  rw [← hm] at HS
  clear hBe hC hG htok hc hm
  go_enter Try.func5, Try.ntmps5
  go_wp2_with fail
  refine hN.mono ?_
  rintro e w1 ⟨rfl, hP1, hb1⟩
  have HP1 := Aside0.mk (And.intro hP1 hb1)
  clear hN hP1 hb1
  go_wp2_with fail
  refine (p_New.calls w1 0).mono ?_
  rintro e w2 ⟨rfl, hP2, hb2⟩
  have hJ := ap_new (tok := tok) HP1.out.1 HP1.out.2 hP2 hb2
  obtain ⟨pb, hpb⟩ : ∃ pb, pb = w1.heap.size + 2 := ⟨_, rfl⟩
  rw [← hpb] at hJ ⊢
  rw [← HBE.out] at hJ ⊢
  have HJ := Aside0.mk hJ
  clear hP2 hb2 HP1 hJ hpb
  go_wp2_with fail
  refine (law_far.calls (Kd.C_below HC.out (HBE.out ▸ HJ.out.ku.1)) HCC.out).mono ?_
  rintro e w3 ⟨bf, rfl, hb, hsm⟩
  have HJ3 := Aside0.mk (HJ.out.below hb)
  rw [← HMS.out] at hsm
  have HSM := Aside0.mk hsm
  clear hb hsm HJ
  cases bf
  case true =>
    go_wp2_with fail
    refine (law_alive.calls _).mono ?_
    rintro e w4 ⟨rfl, hb⟩
    have HB4 := Aside0.mk (HJ3.out.below hb).ku.1
    clear hb
    go_wp2_with fail
    go_ret
    exact ⟨rfl, HBE.out ▸ HB4.out⟩
  have HSN := Aside0.mk (show Small (l.take m) by first | exact HSM.out rfl | exact HSM.out trivial)
  clear HSM
  by_cases hbig : 9000 < tok.size
  · have hbig' : (9000 : Int) < (tok.size : Int) := by omega
    go_wp2_with fail
    refine (law_alive.calls _).mono ?_
    rintro e w4 ⟨rfl, hb⟩
    have HB4 := Aside0.mk (HJ3.out.below hb).ku.1
    clear hb
    go_wp2_with fail
    go_ret
    exact ⟨rfl, HBE.out ▸ HB4.out⟩
  have hbig' : ¬ (9000 : Int) < (tok.size : Int) := by omega
  clear hbig
  go_wp2_with fail
  refine (HS.out _).mono ?_
  rintro e w4 ⟨rfl, rfl⟩
  clear HS
  go_upto_block 0 with fail
  go_cut [47] (fun v wc => Aside0 (Below B w wc ∧ B ≤ wc.heap.size))
  case first =>
    go_wp2_with fail
    go_loopw [47] (fun j wr => ∃ (n : Nat) (T : Int) (V : Option Tok × Bool), n ≤ m ∧ j = .int .i64 n ∧ Aside0 (n ≤ 51 ∧ 0 ≤ T ∧ T ≤ (n : Int) * 100000) ∧ Aside0 (Jn B (B + 2) pb n n T T tok V V w wr)) (fun j _ => m - (intOf j).toNat)
    case atStart => exact ⟨0, 0, _, Nat.zero_le _, rfl, ⟨by omega, by omega, by simp⟩, HJ3⟩
    case round =>
      clear HJ3 hbig'
      obtain ⟨n, T, V, hn, rfl, HT1, HJ⟩ := hrel
      by_cases hlt : n < m
      · have hl : n < l.length := by have := HM.out; omega
        obtain ⟨ad, rfl, hx⟩ := script_at HC.out hl
        have hmem : l[n] ∈ l := List.getElem_mem hl
        have hg := HG.out _ hmem
        have hsm := HSN.out l[n] (List.mem_take_iff_getElem.2 ⟨n, by have := HM.out; omega, rfl⟩)
        have hHeap : Below w.heap.size w wr := HBE.out ▸ HJ.out.ku.1
        generalize l[n] = a at hx hg hsm
        obtain ⟨X, hX⟩ : ∃ X, X = ad.add (n * 7) := ⟨_, rfl⟩
        have hXe : ad.add (n * 7) = X := hX.symm
        rw [hXe] at hx
        clear hX hmem
        have hx0 : wr.cell? X = some (.int .u8 a.kind) := pw_cell_below hHeap (hx 0 _ rfl)
        have hx1 : wr.cell? ⟨X.block, X.off + 1, none⟩ = some (.int .i64 a.later) := pw_cell_below hHeap (hx 1 _ rfl)
        have hx2 : wr.cell? ⟨X.block, X.off + 2, none⟩ = some (.string a.tok) := pw_cell_below hHeap (hx 2 _ rfl)
        have hx3 : wr.cell? ⟨X.block, X.off + 3, none⟩ = some (.string a.sc) := pw_cell_below hHeap (hx 3 _ rfl)
        have hx4 : wr.cell? ⟨X.block, X.off + 4, none⟩ = some (.bool a.good) := pw_cell_below hHeap (hx 4 _ rfl)
        have hx5 : wr.cell? ⟨X.block, X.off + 5, none⟩ = some (.int .i64 a.left) := pw_cell_below hHeap (hx 5 _ rfl)
        have hx6 : wr.cell? ⟨X.block, X.off + 6, none⟩ = some (.int .i64 a.n) := pw_cell_below hHeap (hx 6 _ rfl)
        have en : wrap64 ((n : Int) + 1) = ((n + 1 : Nat) : Int) := w64n (by have := HM.out; omega)
        have HA := Aside0.mk (Blk.At.new wr (av a) 29)
        have HJa := Aside0.mk (HJ.out.below (below_alloc (Below.refl _ wr) (.cells (av a) 29)))
        have HNW := Aside0.mk (jn_now HJa.out)
        have HACT := Aside0.mk (And.intro hg hsm)
        have HN1 := Aside0.mk (gd_n hlt HM.out)
        obtain ⟨g, hge⟩ : ∃ g, g = wr.heap.size := ⟨_, rfl⟩
        rw [← hge] at HA
        replace hge := hge.symm
        clear hx hg hsm hHeap HJ
        go_wp2_with fail
        refine HNW.out.mono ?_
        rintro e w4 ⟨rfl, rfl⟩
        have y1 : (wr.alloc (.cells (av a) 29)).cell? ⟨g, 1, none⟩ = some (.int .i64 a.later) := HA.out.cell 1
        clear HNW hx0 hx1 hx2 hx3 hx4 hx5 hx6
        go_upto_region 8 with fail
        go_cut [61] (fun v wc => v = .bool (decide (0 < a.later ∧ a.later < 100000)) ∧ Aside0 (Blk.At g (av a) 29 wc ∧ Jn B (B + 2) pb n n T T tok V V w wc))
        case first =>
          by_cases h1 : 0 < a.later
          · by_cases h2 : a.later < 100000
            · go_wp2_with fail
              go_meet
              case rel => exact ⟨by rw [decide_eq_true (And.intro h1 h2)], ⟨HA.out, HJa.out⟩⟩
            · have hd : decide (0 < a.later ∧ a.later < 100000) = false := decide_eq_false fun h => h2 h.2
              go_wp2_with fail
              go_meet
              case rel => exact ⟨by rw [hd], ⟨HA.out, HJa.out⟩⟩
          · have hd : decide (0 < a.later ∧ a.later < 100000) = false := decide_eq_false fun h => h1 h.1
            go_wp2_with fail
            go_meet
            case rel => exact ⟨by rw [hd], ⟨HA.out, HJa.out⟩⟩
        case rest =>
        as_aux_lemma =>
        clear HA HJa y1 hge
        obtain ⟨rfl, HA⟩ := hcut
        have y1 : wc.cell? ⟨g, 1, none⟩ = some (.int .i64 a.later) := HA.out.1.cell 1
        generalize hcd : decide (0 < a.later ∧ a.later < 100000) = cd
        have HCD := Aside0.mk hcd
        clear hcd
        go_upto_if 61 with fail
        go_cut [9] (fun v wd => v = .int .i64 (nowL T a.later) ∧ Aside0 (Blk.At g (av a) 29 wd ∧ Jn B (B + 2) pb n n T T tok V V w wd))
        case first =>
          cases cd
          · have hw := nowL_0 (t := T) (of_decide_eq_false HCD.out)
            go_wp2_with fail
            go_meet
            case rel => exact ⟨by rw [hw], HA⟩
          · have hw := nowL_w (t := T) (gd_s ⟨HT1.out.2.1, HT1.out.2.2⟩ HN1.out.2) (of_decide_eq_true HCD.out).1 (of_decide_eq_true HCD.out).2
            go_wp2_with fail
            go_meet
            case rel => exact ⟨by rw [← hw], HA⟩
        case rest =>
        as_aux_lemma =>
        clear HA y1 HCD
        obtain ⟨rfl, HA⟩ := hcut
        have hna := nowL_at T a.later
        generalize nowL T a.later = now at hna
        have HNOW := Aside0.mk (gd_now ⟨HT1.out.2.1, HT1.out.2.2⟩ HN1.out.2 hna)
        have HJ1 := Aside0.mk (HA.out.2.later hna.1)
        have HAT := Aside0.mk HA.out.1
        clear hna HA
        obtain ⟨kd, hkd⟩ : ∃ kd, Int.tmod a.kind 5 = kd := ⟨_, rfl⟩
        go_wp2_with fail
        obtain ⟨W, hW⟩ : ∃ W, W = wc.alloc (.cells #[.pointer (some ⟨B + 2, 0, none⟩), .pointer (some ⟨pb, 0, none⟩)] 23) := ⟨_, rfl⟩
        have hb2 : Below wc.heap.size wc W := by rw [hW]; exact below_alloc (Below.refl _ wc) _
        have hl2 : Blk.At wc.heap.size #[.pointer (some ⟨B + 2, 0, none⟩), .pointer (some ⟨pb, 0, none⟩)] 23 W := by rw [hW]; exact Blk.At.new wc _ 23
        rw [← hW]
        obtain ⟨g2, hg2⟩ : ∃ g2, g2 = wc.heap.size := ⟨_, rfl⟩
        rw [← hg2] at hl2 ⊢
        have HTW := Aside0.mk (show Two (B + 2) pb g g2 a W from ⟨HAT.out.below hb2 HAT.out.lt, hl2⟩)
        have HJ2 := Aside0.mk (HJ1.out.below hb2)
        have HKD := Aside0.mk hkd
        clear hb2 hl2 HJ1 HAT hg2 hW
        go_loopw [70] (fun j wq => ∃ k : Nat, k ≤ 2 ∧ j = .int .i64 k ∧ Aside0 (Two (B + 2) pb g g2 a wq) ∧ Aside0 ((k = 0 ∧ Jn B (B + 2) pb n n T now tok V V w wq) ∨ (k = 1 ∧ Jn B (B + 2) pb (n + 1) n now now tok (stp kd now a tok V) V w wq) ∨ (k = 2 ∧ Jn B (B + 2) pb (n + 1) (n + 1) now now tok (stp kd now a tok V) (if a.tok = tok then stp kd now a tok V else V) w wq))) (fun j _ => 2 - (intOf j).toNat)
        case atStart => exact ⟨0, by omega, rfl, HTW, ⟨.inl ⟨rfl, HJ2.out⟩⟩⟩
        case round =>
          clear HTW HJ2
          obtain ⟨k, hk2, rfl, HTQ, HSS⟩ := hrel
          have y0 : wr.cell? ⟨g, 0, none⟩ = some (.int .u8 a.kind) := HTQ.out.act.cell 0
          have y2 : wr.cell? ⟨g, 2, none⟩ = some (.string a.tok) := HTQ.out.act.cell 2
          have y3 : wr.cell? ⟨g, 3, none⟩ = some (.string a.sc) := HTQ.out.act.cell 3
          have y4 : wr.cell? ⟨g, 4, none⟩ = some (.bool a.good) := HTQ.out.act.cell 4
          have y5 : wr.cell? ⟨g, 5, none⟩ = some (.int .i64 a.left) := HTQ.out.act.cell 5
          have y6 : wr.cell? ⟨g, 6, none⟩ = some (.int .i64 a.n) := HTQ.out.act.cell 6
          rcases HSS.out with ⟨rfl, hS⟩ | ⟨rfl, hS⟩ | ⟨rfl, hS⟩
          · have HS := Aside0.mk hS
            have c0 : wr.cell? ⟨g2, 0, none⟩ = some (.pointer (some ⟨B + 2, 0, none⟩)) := HTQ.out.lst.cell 0
            clear hS HSS
            by_cases hk : kd = 1
            · have hk1 : (kd == 1) = true := by simp [hk]
              have HST := Aside0.mk (show stepT now a tok V = stp kd now a tok V from (if_pos hk).symm)
              clear hk
              have HCL := Aside0.mk (jn_told_a HS.out (Nat.le_trans HT1.out.1 (Nat.le_refl _)) HNOW.out.2.2.1 HACT.out.1.2 HACT.out.2)
              go_wp2_with fail
              refine HCL.out.mono ?_
              rintro e w6 ⟨⟨v6, rfl⟩, hJ6, hK6⟩
              have HJ6 := Aside0.mk hJ6
              have HT6 := Aside0.mk (HTQ.out.ku hK6)
              clear hJ6 hK6 HCL
              go_wp2_with fail
              exact ⟨⟨1, by omega, rfl, HT6, ⟨.inr (.inl ⟨rfl, HST.out ▸ HJ6.out⟩)⟩⟩, by simp [intOf]⟩
            · have hk1 : (kd == 1) = false := by simp [hk]
              have HST := Aside0.mk (show stepC now a tok V = stp kd now a tok V from (if_neg hk).symm)
              clear hk
              have HCL := Aside0.mk (jn_check_a HS.out (Nat.le_trans HT1.out.1 (Nat.le_refl _)) HNOW.out.2.2.1 HACT.out.1.2 (n : Int))
              go_wp2_with fail
              refine HCL.out.mono ?_
              rintro e w6 ⟨⟨v6, rfl⟩, hJ6, hK6⟩
              have HJ6 := Aside0.mk hJ6
              have HT6 := Aside0.mk (HTQ.out.ku hK6)
              clear hJ6 hK6 HCL
              go_wp2_with fail
              exact ⟨⟨1, by omega, rfl, HT6, ⟨.inr (.inl ⟨rfl, HST.out ▸ HJ6.out⟩)⟩⟩, by simp [intOf]⟩
          · have HS := Aside0.mk hS
            have c1 : wr.cell? ⟨g2, 1, none⟩ = some (.pointer (some ⟨pb, 0, none⟩)) := HTQ.out.lst.cell 1
            clear hS HSS
            by_cases he : a.tok = tok
            · have hb : (a.tok.toList == tok.toList) = true := by rw [he]; simp
              by_cases hk : kd = 1
              · have hk1 : (kd == 1) = true := by simp [hk]
                have HST := Aside0.mk (show stepT now a tok V = if a.tok = tok then stp kd now a tok V else V from (if_pos hk).symm.trans (if_pos he).symm)
                clear hk he
                have HCL := Aside0.mk (jn_told_b HS.out (Nat.le_trans HT1.out.1 (Nat.le_refl _)) HNOW.out.2.2.1 HACT.out.1.2 HACT.out.2)
                go_wp2_with fail
                refine HCL.out.mono ?_
                rintro e w6 ⟨⟨v6, rfl⟩, hJ6, hK6⟩
                have HJ6 := Aside0.mk hJ6
                have HT6 := Aside0.mk (HTQ.out.ku hK6)
                clear hJ6 hK6 HCL
                go_wp2_with fail
                exact ⟨⟨2, by omega, rfl, HT6, ⟨.inr (.inr ⟨rfl, HST.out ▸ HJ6.out⟩)⟩⟩, by simp [intOf]⟩
              · have hk1 : (kd == 1) = false := by simp [hk]
                have HST := Aside0.mk (show stepC now a tok V = if a.tok = tok then stp kd now a tok V else V from (if_neg hk).symm.trans (if_pos he).symm)
                clear hk he
                have HCL := Aside0.mk (jn_check_b HS.out (Nat.le_trans HT1.out.1 (Nat.le_refl _)) HNOW.out.2.2.1 HACT.out.1.2 (n : Int))
                go_wp2_with fail
                refine HCL.out.mono ?_
                rintro e w6 ⟨⟨v6, rfl⟩, hJ6, hK6⟩
                have HJ6 := Aside0.mk hJ6
                have HT6 := Aside0.mk (HTQ.out.ku hK6)
                clear hJ6 hK6 HCL
                go_wp2_with fail
                exact ⟨⟨2, by omega, rfl, HT6, ⟨.inr (.inr ⟨rfl, HST.out ▸ HJ6.out⟩)⟩⟩, by simp [intOf]⟩
            · have hb : (a.tok.toList == tok.toList) = false := str_eq he
              have HST := Aside0.mk (show V = if a.tok = tok then stp kd now a tok V else V from (if_neg he).symm)
              clear he
              go_wp2_with fail
              exact ⟨⟨2, by omega, rfl, HTQ, ⟨.inr (.inr ⟨rfl, HST.out ▸ HS.out.up⟩)⟩⟩, by simp [intOf]⟩
          · have HS := Aside0.mk hS
            have heq := ap_eq kd now a tok V
            clear hS HSS
            generalize stp kd now a tok V = V1 at HS heq
            generalize (if a.tok = tok then V1 else V) = V2 at HS heq
            by_cases h50 : 50 < n
            · have h50' : (50 : Int) < (n : Int) := by omega
              have HK := Aside0.mk HS.out.ku
              clear h50
              go_wp2_with fail
              go_meet
              case rel => exact HK
            · have h50' : ¬ (50 : Int) < (n : Int) := by omega
              have HN51 := Aside0.mk (show n + 1 ≤ 51 from by omega)
              have HEQ := Aside0.mk heq
              obtain ⟨r, hr⟩ : ∃ r, r = verdO (expdO now V1.1) tok a.sc := ⟨_, rfl⟩
              have hva := jn_verd_a (HS.out.below (below_drew (Below.refl _ _))) HNOW.out.2.2.1 HT.out a.sc
              rw [← hr] at hva
              have HVA := Aside0.mk hva
              have HVR := Aside0.mk hr
              clear h50 heq hva hr
              go_wp2_with fail
              refine start_ (n := 13) (S := fun w' => w'.cell? ⟨g, 3, none⟩ = some (.string a.sc)) (ds := []) #[false, false, false, false, false, false, false, false, false, false, false, false, false] (by kernel_rfl) rfl rfl (y3) (fun hHeld => ?_)
              refine pure_ (i := 0) (N := some 109) (v := ?_) (a' := ?_) #[true, false, false, false, false, false, false, false, false, false, false, false, false] rfl rfl (by kernel_rfl) (fun _ _ _ h => h) (Or.inl ⟨by rfl, ?_⟩) ?_ ?_
              rotate_left
              · intro w'
                go_simp
                with_reducible rfl
              rotate_left
              · simp only [Act.put, List.setIfInBounds_toArray, List.set_cons_zero, List.set_cons_succ, i64_w, i32_w]
                rfl
              refine pure_ (i := 1) (N := some 110) (v := ?_) (a' := ?_) #[true, true, false, false, false, false, false, false, false, false, false, false, false] rfl rfl (by kernel_rfl) (fun _ _ _ h => h) (Or.inl ⟨by rfl, ?_⟩) ?_ ?_
              rotate_left
              · intro w'
                go_simp
                with_reducible rfl
              rotate_left
              · simp only [Act.put, List.setIfInBounds_toArray, List.set_cons_zero, List.set_cons_succ, i64_w, i32_w]
                rfl
              refine pure_ (i := 2) (N := some 111) (v := ?_) (a' := ?_) #[true, true, true, false, false, false, false, false, false, false, false, false, false] rfl rfl (by kernel_rfl) (fun _ _ _ h => h) (Or.inl ⟨by rfl, ?_⟩) ?_ ?_
              rotate_left
              · intro w'
                go_simp
                with_reducible rfl
              rotate_left
              · simp only [Act.put, List.setIfInBounds_toArray, List.set_cons_zero, List.set_cons_succ, i64_w, i32_w]
                rfl
              refine pure_ (i := 3) (N := some 112) (v := ?_) (a' := ?_) #[true, true, true, true, false, false, false, false, false, false, false, false, false] rfl rfl (by kernel_rfl) (fun _ _ _ h => h) (Or.inl ⟨by rfl, ?_⟩) ?_ ?_
              rotate_left
              · intro w'
                go_simp
                with_reducible rfl
              rotate_left
              · simp only [Act.put, List.setIfInBounds_toArray, List.set_cons_zero, List.set_cons_succ, i64_w, i32_w]
                rfl
              refine pure_ (i := 6) (N := some 115) (v := ?_) (a' := ?_) #[true, true, true, true, false, false, true, false, false, false, false, false, false] rfl rfl (by kernel_rfl) (fun _ _ _ h => h) (Or.inl ⟨by rfl, ?_⟩) ?_ ?_
              rotate_left
              · intro w'
                go_simp
                with_reducible rfl
              rotate_left
              · simp only [Act.put, List.setIfInBounds_toArray, List.set_cons_zero, List.set_cons_succ, i64_w, i32_w]
                rfl
              refine pure_ (i := 7) (N := some 116) (v := ?_) (a' := ?_) #[true, true, true, true, false, false, true, true, false, false, false, false, false] rfl rfl (by kernel_rfl) (fun _ _ _ h => h) (Or.inl ⟨by rfl, ?_⟩) ?_ ?_
              rotate_left
              · intro w'
                go_simp
                with_reducible rfl
              rotate_left
              · simp only [Act.put, List.setIfInBounds_toArray, List.set_cons_zero, List.set_cons_succ, i64_w, i32_w]
                rfl
              refine pure_ (i := 8) (N := some 117) (v := ?_) (a' := ?_) #[true, true, true, true, false, false, true, true, true, false, false, false, false] rfl rfl (by kernel_rfl) (fun _ _ _ h => h) (Or.inl ⟨by rfl, ?_⟩) ?_ ?_
              rotate_left
              · intro w'
                go_simp
                with_reducible rfl
              rotate_left
              · simp only [Act.put, List.setIfInBounds_toArray, List.set_cons_zero, List.set_cons_succ, i64_w, i32_w]
                rfl
              refine pure_ (i := 9) (N := some 118) (v := ?_) (a' := ?_) #[true, true, true, true, false, false, true, true, true, true, false, false, false] rfl rfl (by kernel_rfl) (fun _ _ _ h => h) (Or.inl ⟨by rfl, ?_⟩) ?_ ?_
              rotate_left
              · intro w'
                go_simp
                with_reducible rfl
              rotate_left
              · simp only [Act.put, List.setIfInBounds_toArray, List.set_cons_zero, List.set_cons_succ, i64_w, i32_w]
                rfl
              refine take_ (i := 4) (N := some 113) (v := ?_) (a' := ?_) #[true, true, true, true, true, false, true, true, true, true, false, false, false] rfl rfl (by kernel_rfl) (fun _ _ _ h => h) (Or.inl ⟨by rfl, ?_⟩) hHeld ?_ ?_
              rotate_left
              · intro w' s0
                go_simp
                with_reducible rfl
              rotate_left
              · simp only [Act.put, List.setIfInBounds_toArray, List.set_cons_zero, List.set_cons_succ, i64_w, i32_w]
                rfl
              refine take_ (i := 10) (N := some 119) (v := ?_) (a' := ?_) #[true, true, true, true, true, false, true, true, true, true, true, false, false] rfl rfl (by kernel_rfl) (fun _ _ _ h => h) (Or.inl ⟨by rfl, ?_⟩) hHeld ?_ ?_
              rotate_left
              · intro w' s0
                go_simp
                with_reducible rfl
              rotate_left
              · simp only [Act.put, List.setIfInBounds_toArray, List.set_cons_zero, List.set_cons_succ, i64_w, i32_w]
                rfl
              refine one_ (i := 5) (N := some 114) #[true, true, true, true, true, true, true, true, true, true, true, false, false] rfl rfl (by kernel_rfl) (by decide) (fun K hK => ?_)
              refine goes_ Try.func16 (by kernel_rfl) rfl #[.pointer (some ⟨B + 2, 0, none⟩), .int .i64 now, .string tok, .string a.sc] (by rfl) rfl rfl (by simp only [List.map_toArray, List.map_cons, List.map_nil]; rfl) ?_
              with_reducible refine (HVA.out).mono ?_
              rintro e w6 ⟨rfl, hJ6_, hK6_⟩
              refine ⟨_, rfl, ?_⟩
              have HJ6 := Aside0.mk hJ6_
              have HT6 := Aside0.mk ((HTQ.out.ku (Ku.of_below (F := fun i => B ≤ i) (below_drew (Below.refl _ _)))).ku hK6_)
              have q36 : w6.cell? ⟨g, 3, none⟩ = some (.string a.sc) := HT6.out.act.cell 3
              have hvb := jn_verd_b HJ6.out HNOW.out.2.2.1 HT.out a.sc
              rw [HEQ.out.1, ← HVR.out] at hvb
              have HVB := Aside0.mk hvb
              clear hJ6_ hK6_ hvb
              refine hK.out _ _ (q36) (fun hHeld => ?_)
              clear hK K
              refine norm_ (a' := ?_) ?_ ?_
              rotate_left
              · show Act.put _ (some 114) _ = _
                simp only [Act.put, List.setIfInBounds_toArray, List.set_cons_zero, List.set_cons_succ, i64_w, i32_w]
                rfl
              refine one_ (i := 11) (N := some 120) #[true, true, true, true, true, true, true, true, true, true, true, true, false] rfl rfl (by kernel_rfl) (by decide) (fun K hK => ?_)
              refine goes_ Try.func16 (by kernel_rfl) rfl #[.pointer (some ⟨pb, 0, none⟩), .int .i64 now, .string tok, .string a.sc] (by rfl) rfl rfl (by simp only [List.map_toArray, List.map_cons, List.map_nil]; rfl) ?_
              with_reducible refine (HVB.out).mono ?_
              rintro e w7 ⟨rfl, hJ7_, hK7_⟩
              refine ⟨_, rfl, ?_⟩
              have HJ7 := Aside0.mk hJ7_
              have HT7 := Aside0.mk (HT6.out.ku hK7_)
              have q37 : w7.cell? ⟨g, 3, none⟩ = some (.string a.sc) := HT7.out.act.cell 3
              clear hJ7_ hK7_
              refine hK.out _ _ (q37) (fun hHeld => ?_)
              clear hK K
              refine norm_ (a' := ?_) ?_ ?_
              rotate_left
              · show Act.put _ (some 120) _ = _
                simp only [Act.put, List.setIfInBounds_toArray, List.set_cons_zero, List.set_cons_succ, i64_w, i32_w]
                rfl
              refine pure_ (i := 12) (N := some 121) (v := ?_) (a' := ?_) #[true, true, true, true, true, true, true, true, true, true, true, true, true] rfl rfl (by kernel_rfl) (fun _ _ _ h => h) (Or.inl ⟨by rfl, ?_⟩) ?_ ?_
              rotate_left
              · intro w'
                go_simp
                with_reducible rfl
              rotate_left
              · simp only [Act.put, List.setIfInBounds_toArray, List.set_cons_zero, List.set_cons_succ, i64_w, i32_w]
                rfl
              refine done_ (by kernel_rfl) ?_
              go_wp2_with fail
              refine ⟨⟨n + 1, now, (expdO now V1.1, V1.2), HN1.out.1, by rw [Int.natCast_succ], ⟨HN51.out, Int.le_trans HNOW.out.1 HNOW.out.2.1, HNOW.out.2.2.2⟩, ⟨?_⟩⟩, ap_meas HN1.out.1⟩
              have h7 := HJ7.out
              rw [HEQ.out.2] at h7
              exact h7
      · obtain rfl : n = m := by omega
        have HK := Aside0.mk HJ.out.ku
        clear hlt HJ HT1
        go_wp2_with fail
        go_meet
        case rel => exact HK
  case rest =>
  as_aux_lemma =>
  clear HJ3 hbig'
  have HB := hcut
  clear hcut
  go_wp2_with fail
  obtain ⟨gz, hgz⟩ : ∃ gz, gz = wc.heap.size := ⟨_, rfl⟩
  rw [← hgz]
  have hp := heap_new wc (.cells #[.int .i64 0, .map none, .map none] 50) hgz
  have hba1 := below_alloc (Below.refl _ wc) (.cells #[.int .i64 0, .map none, .map none] 50)
  obtain ⟨Wa, hWa⟩ : ∃ Wa, Wa = wc.alloc (.cells #[.int .i64 0, .map none, .map none] 50) := ⟨_, rfl⟩
  have hsa : Wa.heap.size = gz + 1 := by rw [hWa, size_alloc, hgz]
  rw [← hWa] at hp hba1 ⊢
  have hq := heap_new Wa (.cells #[.pointer none, .pointer (some ⟨gz, 0, none⟩)] 23) hsa.symm
  have hp' := Blk.At.alloc (show Blk.At gz _ 50 Wa from hp) (.cells #[.pointer none, .pointer (some ⟨gz, 0, none⟩)] 23)
  have hba2 := below_alloc (Below.refl _ Wa) (.cells #[.pointer none, .pointer (some ⟨gz, 0, none⟩)] 23)
  have hba := hba1.trans (hba2.mono hba1.size)
  obtain ⟨Wb, hWb⟩ : ∃ Wb, Wb = Wa.alloc (.cells #[.pointer none, .pointer (some ⟨gz, 0, none⟩)] 23) := ⟨_, rfl⟩
  have hsb : Wb.heap.size = gz + 2 := by rw [hWb, size_alloc, hsa]
  rw [← hWb] at hp' hq hba ⊢
  have HZ := Aside0.mk hp'
  have HQ := Aside0.mk (show Blk.At (gz + 1) #[.pointer none, .pointer (some ⟨gz, 0, none⟩)] 23 Wb from hq)
  have HBb := Aside0.mk (show Below B w Wb ∧ B ≤ Wb.heap.size from ⟨HB.out.1.trans (hba.mono HB.out.2), Nat.le_trans HB.out.2 hba.size⟩)
  have HSZ := Aside0.mk hsb
  have HB00 := Aside0.mk (Below.refl Wb.heap.size Wb)
  clear hp hq hp' hba hba1 hba2 hWa hWb hsa hsb hgz HB
  go_loopw [127] (fun j wq => ∃ n : Nat, n ≤ 2 ∧ j = .int .i64 n ∧ Aside0 (Below Wb.heap.size Wb wq)) (fun j _ => 2 - (intOf j).toNat)
  case atStart => exact ⟨0, by omega, rfl, HB00⟩
  case round =>
    clear HB00
    obtain ⟨n, hn, rfl, HB0⟩ := hrel
    rcases (by omega : n = 2 ∨ n = 0 ∨ n = 1) with rfl | rfl | rfl
    · go_wp2_with fail
      refine (law_alive.calls _).mono ?_
      rintro e v1 ⟨rfl, hb⟩
      have HB1 := Aside0.mk ((HBb.out.1.trans (HB0.out.mono HBb.out.2)).trans (hb.mono (Nat.le_trans HBb.out.2 HB0.out.size)))
      clear hb
      go_wp2_with fail
      go_ret
      exact ⟨rfl, HBE.out ▸ HB1.out⟩
    · have cl : wr.cell? ⟨gz + 1, 0, none⟩ = some (Value.pointer none) := (Blk.At.below HQ.out HB0.out (by rw [HSZ.out]; omega)).cell 0
      have HD := Aside0.mk ((show DeadAt (.pointer none) Wb Wb from ⟨.inl rfl, Below.refl _ _⟩).below HB0.out)
      go_wp2_with fail
      refine (p_Check.dead HD.out.dead _ _ _ _).mono ?_
      rintro e v0 ⟨rfl, rfl⟩
      go_wp2_with fail
      refine (p_Told.dead HD.out.dead _ _ _ _ _).mono ?_
      rintro e v1 ⟨rfl, rfl⟩
      go_wp2_with fail
      refine (p_Asked.dead HD.out.dead).mono ?_
      rintro e v2 ⟨rfl, rfl⟩
      go_wp2_with fail
      refine (p_Known.dead HD.out.dead).mono ?_
      rintro e v3 ⟨rfl, rfl⟩
      go_wp2_with fail
      refine (p_Verdict.dead HD.out.dead _ _ _).mono ?_
      rintro e v4 ⟨rfl, rfl⟩
      go_wp2_with fail
      refine (p_Drop.dead HD.out.dead _).mono ?_
      rintro e v5 ⟨rfl, hb⟩
      have HD5 := Aside0.mk (HD.out.below hb)
      clear hb HD cl
      go_wp2_with fail
      refine (p_Now.dead HD5.out.dead).mono ?_
      rintro e v6 ⟨rfl, rfl⟩
      go_wp2_with fail
      exact ⟨⟨1, by omega, rfl, ⟨HD5.out.low⟩⟩, by simp [intOf]⟩
    · have cl : wr.cell? ⟨gz + 1, 1, none⟩ = some (Value.pointer (some ⟨gz, 0, none⟩)) := (Blk.At.below HQ.out HB0.out (by rw [HSZ.out]; omega)).cell 1
      have HD := Aside0.mk ((show DeadAt (.pointer (some ⟨gz, 0, none⟩)) Wb Wb from ⟨.inr ⟨gz, rfl, HZ.out⟩, Below.refl _ _⟩).below HB0.out)
      go_wp2_with fail
      refine (p_Check.dead HD.out.dead _ _ _ _).mono ?_
      rintro e v0 ⟨rfl, rfl⟩
      go_wp2_with fail
      refine (p_Told.dead HD.out.dead _ _ _ _ _).mono ?_
      rintro e v1 ⟨rfl, rfl⟩
      go_wp2_with fail
      refine (p_Asked.dead HD.out.dead).mono ?_
      rintro e v2 ⟨rfl, rfl⟩
      go_wp2_with fail
      refine (p_Known.dead HD.out.dead).mono ?_
      rintro e v3 ⟨rfl, rfl⟩
      go_wp2_with fail
      refine (p_Verdict.dead HD.out.dead _ _ _).mono ?_
      rintro e v4 ⟨rfl, rfl⟩
      go_wp2_with fail
      refine (p_Drop.dead HD.out.dead _).mono ?_
      rintro e v5 ⟨rfl, hb⟩
      have HD5 := Aside0.mk (HD.out.below hb)
      clear hb HD cl
      go_wp2_with fail
      refine (p_Now.dead HD5.out.dead).mono ?_
      rintro e v6 ⟨rfl, rfl⟩
      go_wp2_with fail
      exact ⟨⟨2, by omega, rfl, ⟨HD5.out.low⟩⟩, by simp [intOf]⟩
end Go.Proofs.Ytnakiheekkpfdaa.Q
