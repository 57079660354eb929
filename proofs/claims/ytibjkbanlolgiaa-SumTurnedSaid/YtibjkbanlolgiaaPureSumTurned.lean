/- The pure statement of SumTurned: bytes of which one is another one have another sum, and another mark. No condition. -/
import Derived.Test.YtibjkbanlolgiaaSaySumTurned
import Derived.Test.YtibjkbanlolgiaaLawsA
namespace Go.Proofs.Ytibjkbanlolgiaa.Pure
open Go.RowKit Go.Proofs.Ytibjkbanlolgiaa.Q Go.Proofs.YtibjkbanlolgiaaW.PrintWords Go.Proofs.YtibjkbanlolgiaaW.PrintLast Go.Proofs.YtibjkbanlolgiaaW.PrintMore Go.Proofs.Ytibjkbanlolgiaa.Plain
set_option linter.unusedVariables false
theorem byte_of {x : Int} (h : (Lit.int .u8 x).wf = true) : 0 ≤ x ∧ x < 256 := by
  simp [Lit.wf] at h
  have h1 : IntKind.u8.min = 0 := rfl
  have h2 : IntKind.u8.max = 255 := rfl
  omega
theorem b32_inj {x y : Int} (hx : 0 ≤ x ∧ x < 256) (hy : 0 ≤ y ∧ y < 256) (h : b32 x = b32 y) : x = y := by
  have h1 := congrArg (fun b : BitVec 32 => (b.toNat : Int)) h
  unfold b32 at h1
  simp only [← mod32] at h1
  omega
theorem b64_inj {x y : Int} (hx : 0 ≤ x ∧ x < 256) (hy : 0 ≤ y ∧ y < 256) (h : b64 x = b64 y) : x = y := by
  have h1 := congrArg (fun b : BitVec 64 => (b.toNat : Int)) h
  unfold b64 at h1
  simp only [← mod64, wrap_u64] at h1
  omega
theorem xor_left {n : Nat} {c a b : BitVec n} (h : c ^^^ a = c ^^^ b) : a = b := by
  have := congrArg (c ^^^ ·) h
  simpa [← BitVec.xor_assoc] using this
theorem xor_right {n : Nat} {c a b : BitVec n} (h : a ^^^ c = b ^^^ c) : a = b := by
  rw [BitVec.xor_comm a, BitVec.xor_comm b] at h
  exact xor_left h
theorem step4_inj {a b : BitVec 32} (h : step4 a = step4 b) : a = b := step_inj (step_inj (step_inj (step_inj h)))
theorem crc1_inj {c d : BitVec 32} {x : Int} (h : crc1 c x = crc1 d x) : c = d := xor_right (step4_inj (step4_inj h))
theorem mark1_inj {c d : BitVec 64} {x : Int} (h : mark1 c x = mark1 d x) : c = d := xor_right (mark_inj h)
theorem crcs_inj (l : List Int) : ∀ {c d : BitVec 32}, crcs c l = crcs d l → c = d := by
  induction l with
  | nil => exact fun h => h
  | cons x l ih => exact fun h => crc1_inj (ih h)
theorem marks_inj (l : List Int) : ∀ {c d : BitVec 64}, marks c l = marks d l → c = d := by
  induction l with
  | nil => exact fun h => h
  | cons x l ih => exact fun h => mark1_inj (ih h)
theorem parts_of {l : List Int} {i : Nat} (h : i < l.length) (a : Int) : l = l.take i ++ l[i] :: l.drop (i + 1) ∧ l.set i a = l.take i ++ a :: l.drop (i + 1) := by
  refine ⟨?_, List.set_eq_take_append_cons_drop.trans (if_pos h)⟩
  rw [← List.drop_eq_getElem_cons h, List.take_append_drop]
theorem crcs_turned {l : List Int} {i : Nat} (h : i < l.length) (a : Int) (c : BitVec 32) (hl : 0 ≤ l[i] ∧ l[i] < 256) (ha : 0 ≤ a ∧ a < 256) : crcs c l = crcs c (l.set i a) ↔ l[i] = a := by
  obtain ⟨h1, h2⟩ := parts_of h a
  constructor
  · intro e
    rw [h2] at e
    have e2 : crcs c (l.take i ++ l[i] :: l.drop (i + 1)) = crcs c (l.take i ++ a :: l.drop (i + 1)) := by rw [← h1]; exact e
    unfold crcs at e2
    rw [List.foldl_append, List.foldl_append, List.foldl_cons, List.foldl_cons] at e2
    exact b32_inj hl ha (xor_left (step4_inj (step4_inj (crcs_inj _ e2))))
  · intro e
    subst e
    rw [List.set_getElem_self]
theorem marks_turned {l : List Int} {i : Nat} (h : i < l.length) (a : Int) (c : BitVec 64) (hl : 0 ≤ l[i] ∧ l[i] < 256) (ha : 0 ≤ a ∧ a < 256) : marks c l = marks c (l.set i a) ↔ l[i] = a := by
  obtain ⟨h1, h2⟩ := parts_of h a
  constructor
  · intro e
    rw [h2] at e
    have e2 : marks c (l.take i ++ l[i] :: l.drop (i + 1)) = marks c (l.take i ++ a :: l.drop (i + 1)) := by rw [← h1]; exact e
    unfold marks at e2
    rw [List.foldl_append, List.foldl_append, List.foldl_cons, List.foldl_cons] at e2
    exact b64_inj hl ha (xor_left (mark_inj (marks_inj _ e2)))
  · intro e
    subst e
    rw [List.set_getElem_self]
/-- The sum of one part. -/
theorem crc_one (l : List Int) (hn : l.length ≤ 140737488351232) : Ev (fun k => sum_Crc.f k [l]) ((~~~(crcs (~~~0#32) l)).toNat : Int) := by
  unfold sum_Crc.f sum_New.f
  simp only [Option.bind_some]
  refine Ev.step (fun k => by
    simp only [sum_Crc.l0]
    rw [if_pos (by simp), if_pos (by simp), if_pos (by simp)]) ?_
  refine Ev.bind (add_ev 0#32 0#64 l hn) ?_
  refine Ev.step (f := fun _ => some ((~~~(crcs (~~~0#32) l)).toNat : Int)) (fun k => ?_) (Ev.now _)
  simp only [sum_Crc.l0, sum_Sum_Crc.f, Option.bind_some]
  rw [if_neg (by simp [wrap64])]
theorem nat_eq32 (a b : BitVec 32) : (((a.toNat : Nat) : Int) == ((b.toNat : Nat) : Int)) = decide (a = b) := by
  by_cases h : a = b
  · subst h; simp
  · rw [decide_eq_false h]
    exact beq_eq_false_iff_ne.mpr (fun e => h (BitVec.eq_of_toNat_eq (by omega)))
theorem nat_eq64 (a b : BitVec 64) : (((a.toNat : Nat) : Int) == ((b.toNat : Nat) : Int)) = decide (a = b) := by
  by_cases h : a = b
  · subst h; simp
  · rw [decide_eq_false h]
    exact beq_eq_false_iff_ne.mpr (fun e => h (BitVec.eq_of_toNat_eq (by omega)))
theorem not_eq32 (a b : BitVec 32) : ~~~a = ~~~b ↔ a = b := ⟨fun h => by have := congrArg (~~~ ·) h; simpa using this, fun h => by rw [h]⟩
theorem turned_j (l : List Int) (a1 a2 : Int) (hn : l.length ≤ 140737488351232) (hl : ∀ x ∈ l, 0 ≤ x ∧ x < 256) (ha : 0 ≤ a2 ∧ a2 < 256) (b : Bool) (hb : b = false → l.length ≠ 0) : Ev (fun k => cringlelaw08_SumTurned.j0 k l a1 a2 b) true := by
  cases b with
  | true =>
    refine Ev.step (f := fun _ => some true) (fun k => ?_) (Ev.now _)
    simp only [cringlelaw08_SumTurned.j0, cringlelaw08_alive.f, Option.bind_some, if_true]
  | false =>
    have hne := hb rfl
    obtain ⟨i, hi, hlt⟩ : ∃ i : Nat, (Int.tmod (wrap64 ((Int.tmod a1 (l.length : Int)) + (l.length : Int))) (l.length : Int)) = (i : Int) ∧ i < l.length := by
      have e1 : (Int.tmod a1 (l.length : Int)) < (l.length : Int) := Int.tmod_lt_of_pos _ (by omega)
      have e2 : -(l.length : Int) < (Int.tmod a1 (l.length : Int)) := Int.lt_tmod_of_pos _ (by omega)
      have e3 : wrap64 ((Int.tmod a1 (l.length : Int)) + (l.length : Int)) = (Int.tmod a1 (l.length : Int)) + (l.length : Int) := by unfold wrap64; omega
      rw [e3]
      have e4 : 0 ≤ Int.tmod ((Int.tmod a1 (l.length : Int)) + (l.length : Int)) (l.length : Int) := Int.tmod_nonneg _ (by omega)
      have e5 : Int.tmod ((Int.tmod a1 (l.length : Int)) + (l.length : Int)) (l.length : Int) < (l.length : Int) := Int.tmod_lt_of_pos _ (by omega)
      exact ⟨_, (Int.toNat_of_nonneg e4).symm, by omega⟩
    have hx := hl l[i] (List.getElem_mem hlt)
    have hset : (l.set i a2).length ≤ 140737488351232 := by simpa using hn
    refine Ev.step (fun k => by
      simp only [cringlelaw08_SumTurned.j0, Bool.false_eq_true, if_false]
      rw [if_neg (by omega), if_pos (by simp; omega)]) ?_
    simp only [List.nil_append, Option.bind_some, hi, Int.toNat_natCast]
    refine Ev.congr (fun k => if_pos (by omega)) ?_
    refine Ev.congr (fun k => if_pos (by omega)) ?_
    unfold sum_New.f cringlelaw08_alive.f sum_Sum_Mark.f
    simp only [Option.bind_some]
    refine Ev.bind (add_ev 0#32 0#64 l hn) ?_
    refine Ev.bind (add_ev 0#32 0#64 (l.set i a2) hset) ?_
    refine Ev.congr (fun k => if_pos (by omega)) ?_
    refine Ev.bind (crc_one l hn) ?_
    refine Ev.bind (crc_one (l.set i a2) hset) ?_
    have hrd : rd l (i : Int) = l[i] := rd_get hlt
    have hc : (((((~~~(crcs (~~~0#32) l)).toNat : Nat) : Int) == (((~~~(crcs (~~~0#32) (l.set i a2))).toNat : Nat) : Int)) == (rd l (i : Int) == a2)) = true := by
      have e : decide (~~~(crcs (~~~0#32) l) = ~~~(crcs (~~~0#32) (l.set i a2))) = decide (l[i] = a2) := decide_eq_decide.mpr ((not_eq32 _ _).trans (crcs_turned hlt a2 _ hx ha))
      rw [nat_eq32, hrd, e]
      by_cases h : l[i] = a2 <;> simp [h]
    refine Ev.congr (fun k => if_pos hc) ?_
    simp only [begin64]
    have hm : (((((marks (0#64 ^^^ 14695981039346656037#64) l ^^^ 14695981039346656037#64) ^^^ 14695981039346656037#64).toNat : Nat) : Int) == ((((marks (0#64 ^^^ 14695981039346656037#64) (l.set i a2) ^^^ 14695981039346656037#64) ^^^ 14695981039346656037#64).toNat : Nat) : Int)) = (rd l (i : Int) == a2) := by
      rw [nat_eq64, hrd]
      have : ∀ x y : BitVec 64, (x ^^^ 14695981039346656037#64) ^^^ 14695981039346656037#64 = (y ^^^ 14695981039346656037#64) ^^^ 14695981039346656037#64 ↔ x = y := fun x y => ⟨fun h => xor_right (xor_right h), fun h => by rw [h]⟩
      have e : decide (((marks (0#64 ^^^ 14695981039346656037#64) l ^^^ 14695981039346656037#64) ^^^ 14695981039346656037#64) = ((marks (0#64 ^^^ 14695981039346656037#64) (l.set i a2) ^^^ 14695981039346656037#64) ^^^ 14695981039346656037#64)) = decide (l[i] = a2) := decide_eq_decide.mpr ((this _ _).trans (marks_turned hlt a2 _ hx ha))
      rw [e]
      by_cases h : l[i] = a2 <;> simp [h]
    rw [hm]
    exact Ev.congr (fun k => if_pos (by simp)) (Ev.now _)
theorem SumTurned : Say.SumTurned := by
  rintro l a1 a2 ⟨hn, hw⟩ w1 w2
  have hl : ∀ x ∈ l, 0 ≤ x ∧ x < 256 := fun x hx => byte_of (hw x hx)
  refine Ev.rounds (g := fun k => cringlelaw08_SumTurned.f k l a1 a2) ?_
  have hj := turned_j l a1 a2 (by omega) hl (byte_of w2)
  unfold cringlelaw08_SumTurned.f cringlelaw08_long.f
  simp only [Option.bind_some]
  by_cases h : (l.length : Int) > 3000
  · simp only [decide_eq_true h, if_true]
    exact hj true (by simp)
  · simp only [decide_eq_false h, Bool.false_eq_true, if_false]
    refine hj _ (fun hh => ?_)
    have := of_decide_eq_false hh
    omega
end Go.Proofs.Ytibjkbanlolgiaa.Pure
