/- What the printed loops of the sum come to, from some number of rounds on: the state behind the bytes, as bit vectors; a number's hex digits. No condition but those typed. -/
import Derived.Test.YtibjkbanlolgiaaQ
import Derived.Test.YtibjkbanlolgiaaBits
namespace Go.Proofs.Ytibjkbanlolgiaa.Plain
open Go.RowKit Go.Proofs.Ytibjkbanlolgiaa.Q Go.Proofs.YtibjkbanlolgiaaW.PrintWords Go.Proofs.YtibjkbanlolgiaaW.PrintLast Go.Proofs.YtibjkbanlolgiaaW.PrintMore
set_option linter.unusedVariables false
def b32 (x : Int) : BitVec 32 := BitVec.ofInt 32 x
def b64 (x : Int) : BitVec 64 := BitVec.ofInt 64 x
/-- One byte into the sum's state, and into the mark. -/
def crc1 (c : BitVec 32) (x : Int) : BitVec 32 := step4 (step4 (c ^^^ b32 x))
def mark1 (m : BitVec 64) (x : Int) : BitVec 64 := (m ^^^ b64 x) * 1099511628211#64
def crcs (c : BitVec 32) (l : List Int) : BitVec 32 := l.foldl crc1 c
def marks (m : BitVec 64) (l : List Int) : BitVec 64 := l.foldl mark1 m
theorem half_eq (c : BitVec 32) : sum_half.f (c.toNat : Int) = some ((BitVec.ofNat 32 (tab.getD (c &&& 15#32).toNat 0)).toNat : Int) := by
  unfold sum_half.f
  have h := and32 c 15#32
  rw [show ((15#32).toNat : Int) = 15 from rfl] at h
  rw [h]
  have hl : (c &&& 15#32).toNat < 16 := by
    rw [BitVec.toNat_and]
    exact Nat.lt_of_le_of_lt Nat.and_le_right (by decide)
  have key : ∀ i : Fin 16, rd sum_half.tab (i.val : Int) = ((BitVec.ofNat 32 (tab.getD i.val 0)).toNat : Int) := by decide
  rw [key ⟨_, hl⟩]
theorem rd_get {l : List Int} {i : Nat} (h : i < l.length) : rd l (i : Int) = l[i] := by
  unfold rd
  rw [Int.toNat_natCast, List.getD_eq_getElem?_getD, List.getElem?_eq_getElem h]
  rfl
theorem wrap_next {i : Nat} (h : i ≤ 140737488351232) : wrap64 ((i : Int) + 1) = ((i + 1 : Nat) : Int) := by
  unfold wrap64
  omega
theorem bmask (b : BitVec 32) (x : Int) : Go.bits .xor .u32 (b.toNat : Int) (x % 4294967296) = ((b ^^^ b32 x).toNat : Int) := by
  rw [mod32, xor32]; rfl
theorem mmask (b : BitVec 64) (x : Int) : Go.bits .xor .u64 (b.toNat : Int) (IntKind.u64.wrap x) = ((b ^^^ b64 x).toNat : Int) := by
  rw [mod64, xor64]; rfl
theorem add_loop (l : List Int) (hn : l.length ≤ 140737488351232) (d : Nat) : ∀ (i : Nat) (c : BitVec 32) (m : BitVec 64), i + d = l.length →
    Ev (fun k => sum_Sum_Add.l0 k (c.toNat : Int) (m.toNat : Int) l (l.length : Int) (i : Int)) (((~~~(crcs c (l.drop i))).toNat : Int), ((marks m (l.drop i) ^^^ 14695981039346656037#64).toNat : Int)) := by
  induction d with
  | zero =>
    intro i c m hi
    refine Ev.step (f := fun _ => some (((~~~(crcs c (l.drop i))).toNat : Int), ((marks m (l.drop i) ^^^ 14695981039346656037#64).toNat : Int))) (fun k => ?_) (Ev.now _)
    simp only [sum_Sum_Add.l0]
    rw [if_neg (by omega), not32, begin64, List.drop_of_length_le (by omega)]
    rfl
  | succ d ih =>
    intro i c m hi
    have hlt : i < l.length := by omega
    have hd : l.drop i = l[i] :: l.drop (i + 1) := List.drop_eq_getElem_cons hlt
    refine Ev.step (f := fun k => sum_Sum_Add.l0 k ((crc1 c l[i]).toNat : Int) ((mark1 m l[i]).toNat : Int) l (l.length : Int) ((i + 1 : Nat) : Int)) (fun k => ?_) ?_
    · simp only [sum_Sum_Add.l0]
      rw [if_pos (by omega), if_pos (by omega), if_pos (by omega), rd_get hlt, bmask, half_eq, Option.bind_some, shr4', xor32, ← step4_eq, half_eq, Option.bind_some, shr4', xor32, ← step4_eq, mmask, prime64, wrap_next (by omega)]
      rfl
    · have := ih (i + 1) (crc1 c l[i]) (mark1 m l[i]) (by omega)
      rw [hd]
      exact this
/-- Add: the state as it is kept: all bits turned. -/
theorem add_ev (c : BitVec 32) (m : BitVec 64) (l : List Int) (hn : l.length ≤ 140737488351232) :
    Ev (fun k => sum_Sum_Add.f k (c.toNat : Int) (m.toNat : Int) l) (((~~~(crcs (~~~c) l)).toNat : Int), ((marks (m ^^^ 14695981039346656037#64) l ^^^ 14695981039346656037#64).toNat : Int)) := by
  have h := add_loop l hn l.length 0 (~~~c) (m ^^^ 14695981039346656037#64) (by omega)
  refine Ev.congr (fun k => ?_) h
  unfold sum_Sum_Add.f
  rw [not32, begin64]
  rfl
end Go.Proofs.Ytibjkbanlolgiaa.Plain
