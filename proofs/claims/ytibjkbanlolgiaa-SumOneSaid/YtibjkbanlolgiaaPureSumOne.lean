/- The pure statement of SumOne: the sum and the mark of any bytes, and any number's hex digits, are the reference's. No condition. -/
import Derived.Test.YtibjkbanlolgiaaSaySumOne
import Derived.Test.YtibjkbanlolgiaaLaws
namespace Go.Proofs.Ytibjkbanlolgiaa.Pure
open Go.RowKit Go.Proofs.Ytibjkbanlolgiaa.Q Go.Proofs.YtibjkbanlolgiaaW.PrintWords Go.Proofs.YtibjkbanlolgiaaW.PrintLast Go.Proofs.Ytibjkbanlolgiaa.Plain
theorem byte_of {x : Int} (h : (Lit.int .u8 x).wf = true) : 0 ≤ x ∧ x < 256 := by
  simp [Lit.wf] at h
  have h1 : IntKind.u8.min = 0 := rfl
  have h2 : IntKind.u8.max = 255 := rfl
  omega
theorem u64_of {x : Int} (h : (Lit.int .u64 x).wf = true) : 0 ≤ x ∧ x < 18446744073709551616 := by
  simp [Lit.wf] at h
  have h1 : IntKind.u64.min = 0 := rfl
  have h2 : IntKind.u64.max = 18446744073709551615 := rfl
  omega
theorem SumOne : Say.SumOne := by
  rintro l a1 a2 ⟨hn, hw⟩ w1 w2
  have hl : ∀ x ∈ l, 0 ≤ x ∧ x < 256 := fun x hx => byte_of (hw x hx)
  have hn' : l.length ≤ 140737488351232 := by omega
  refine Ev.rounds (g := fun k => cringlelaw08_SumOne.f k l a1 a2) ?_
  unfold cringlelaw08_SumOne.f cringlelaw08_long.f sum_New.f cringlelaw08_alive.f sum_Sum_Crc.f sum_Sum_Mark.f
  simp only [Option.bind_some]
  by_cases h : (l.length : Int) > 3000
  · simp only [decide_eq_true h, if_true]
    exact Ev.now _
  · simp only [decide_eq_false h, Bool.false_eq_true, if_false]
    refine Ev.bind (add_ev 0#32 0#64 l hn') ?_
    refine Ev.bind (rcrc_ev l hn' hl) ?_
    simp only [if_true]
    rw [begin64]
    refine Ev.bind (rmark_ev l hn') ?_
    rw [show ∀ x : BitVec 64, (x ^^^ 14695981039346656037#64) ^^^ 14695981039346656037#64 = x from fun x => by rw [BitVec.xor_assoc, BitVec.xor_self, BitVec.xor_zero]]
    simp only [if_true]
    refine Ev.bind (hex_ev a1 a2 (u64_of w1).1 (u64_of w1).2) ?_
    refine Ev.bind (rhex_ev a1 a2 (u64_of w1).1 (u64_of w1).2) ?_
    simp only [if_true]
    exact Ev.now _
end Go.Proofs.Ytibjkbanlolgiaa.Pure
