/- The sum of bytes: what the printed loops come to, from some number of rounds on. No condition but those typed. -/
import Derived.Test.YtdlfabbhdelinaaP
import Derived.Test.YtdlfabbhdelinaaBits
namespace Go.Proofs.Ytdlfabbhdelinaa.Plain
open Go.RowKit Go.Proofs.Ytdlfabbhdelinaa.P Go.Proofs.YtdlfabbhdelinaaW.PrintWords Go.Proofs.YtdlfabbhdelinaaW.PrintLast Go.Proofs.YtdlfabbhdelinaaW.PrintMore
set_option linter.unusedVariables false
def b32 (x : Int) : BitVec 32 := BitVec.ofInt 32 x
def b64 (x : Int) : BitVec 64 := BitVec.ofInt 64 x
/-- One byte into the sum's state, and into the mark. -/
def crc1 (c : BitVec 32) (x : Int) : BitVec 32 := step4 (step4 (c ^^^ b32 x))
def mark1 (m : BitVec 64) (x : Int) : BitVec 64 := (m ^^^ b64 x) * 1099511628211#64
def crcs (c : BitVec 32) (l : List Int) : BitVec 32 := l.foldl crc1 c
def marks (m : BitVec 64) (l : List Int) : BitVec 64 := l.foldl mark1 m
theorem half_eq (c : BitVec 32) : sum_half.f (c.toNat : Int) = some ((BitVec.ofNat 32 (tab.getD (c &&& 15#32).toNat 0)).toNat : Int) := by
  unfold sum_half.f
  have h := and32 c 15#32
  rw [show ((15#32).toNat : Int) = 15 from rfl] at h
  rw [h]
  have hl : (c &&& 15#32).toNat < 16 := by
    rw [BitVec.toNat_and]
    exact Nat.lt_of_le_of_lt Nat.and_le_right (by decide)
  have key : ∀ i : Fin 16, rd sum_half.tab (i.val : Int) = ((BitVec.ofNat 32 (tab.getD i.val 0)).toNat : Int) := by decide
  rw [key ⟨_, hl⟩]
theorem rd_get {l : List Int} {i : Nat} (h : i < l.length) : rd l (i : Int) = l[i] := by
  unfold rd
  rw [Int.toNat_natCast, List.getD_eq_getElem?_getD, List.getElem?_eq_getElem h]
  rfl
theorem wrap_next {i : Nat} (h : i ≤ 140737488351232) : wrap64 ((i : Int) + 1) = ((i + 1 : Nat) : Int) := by
  unfold wrap64
  omega
theorem bmask (b : BitVec 32) (x : Int) : Go.bits .xor .u32 (b.toNat : Int) (x % 4294967296) = ((b ^^^ b32 x).toNat : Int) := by
  rw [mod32, xor32]; rfl
theorem mmask (b : BitVec 64) (x : Int) : Go.bits .xor .u64 (b.toNat : Int) (IntKind.u64.wrap x) = ((b ^^^ b64 x).toNat : Int) := by
  rw [mod64, xor64]; rfl
theorem add_loop (l : List Int) (hn : l.length ≤ 140737488351232) (d : Nat) : ∀ (i : Nat) (c : BitVec 32) (m : BitVec 64), i + d = l.length →
    Ev (fun k => sum_Sum_Add.l0 k (c.toNat : Int) (m.toNat : Int) l (l.length : Int) (i : Int)) (((~~~(crcs c (l.drop i))).toNat : Int), ((marks m (l.drop i) ^^^ 14695981039346656037#64).toNat : Int)) := by
  induction d with
  | zero =>
    intro i c m hi
    refine Ev.step (f := fun _ => some (((~~~(crcs c (l.drop i))).toNat : Int), ((marks m (l.drop i) ^^^ 14695981039346656037#64).toNat : Int))) (fun k => ?_) (Ev.now _)
    simp only [sum_Sum_Add.l0]
    rw [if_neg (by omega), not32, begin64, List.drop_of_length_le (by omega)]
    rfl
  | succ d ih =>
    intro i c m hi
    have hlt : i < l.length := by omega
    have hd : l.drop i = l[i] :: l.drop (i + 1) := List.drop_eq_getElem_cons hlt
    refine Ev.step (f := fun k => sum_Sum_Add.l0 k ((crc1 c l[i]).toNat : Int) ((mark1 m l[i]).toNat : Int) l (l.length : Int) ((i + 1 : Nat) : Int)) (fun k => ?_) ?_
    · simp only [sum_Sum_Add.l0]
      rw [if_pos (by omega), if_pos (by omega), if_pos (by omega), rd_get hlt, bmask, half_eq, Option.bind_some, shr4', xor32, ← step4_eq, half_eq, Option.bind_some, shr4', xor32, ← step4_eq, mmask, prime64, wrap_next (by omega)]
      rfl
    · have := ih (i + 1) (crc1 c l[i]) (mark1 m l[i]) (by omega)
      rw [hd]
      exact this
/-- Add: the state as it is kept: all bits turned. -/
theorem add_ev (c : BitVec 32) (m : BitVec 64) (l : List Int) (hn : l.length ≤ 140737488351232) :
    Ev (fun k => sum_Sum_Add.f k (c.toNat : Int) (m.toNat : Int) l) (((~~~(crcs (~~~c) l)).toNat : Int), ((marks (m ^^^ 14695981039346656037#64) l ^^^ 14695981039346656037#64).toNat : Int)) := by
  have h := add_loop l hn l.length 0 (~~~c) (m ^^^ 14695981039346656037#64) (by omega)
  refine Ev.congr (fun k => ?_) h
  unfold sum_Sum_Add.f
  rw [not32, begin64]
  rfl
def B64 : BitVec 64 := 14695981039346656037#64
def cst (c : BitVec 32) (l : List Int) : BitVec 32 := ~~~(crcs (~~~c) l)
def mst (m : BitVec 64) (l : List Int) : BitVec 64 := marks (m ^^^ B64) l ^^^ B64
theorem cst_app (c : BitVec 32) (a b : List Int) : cst (cst c a) b = cst c (a ++ b) := by
  unfold cst crcs
  rw [BitVec.not_not, List.foldl_append]
theorem mst_app (m : BitVec 64) (a b : List Int) : mst (mst m a) b = mst m (a ++ b) := by
  unfold mst marks
  rw [BitVec.xor_assoc, BitVec.xor_self, BitVec.xor_zero, List.foldl_append]
theorem add_st (c : BitVec 32) (m : BitVec 64) (l : List Int) (hn : l.length ≤ 140737488351232) : Ev (fun k => sum_Sum_Add.f k (c.toNat : Int) (m.toNat : Int) l) (((cst c l).toNat : Int), ((mst m l).toNat : Int)) := add_ev c m l hn
theorem rd1 {l : List (List Int)} {i : Nat} (h : i < l.length) : rd_L1 l (i : Int) = l[i] := by
  unfold rd_L1
  rw [Int.toNat_natCast, List.getD_eq_getElem?_getD, List.getElem?_eq_getElem h]
  rfl
theorem crc_loop (x : List (List Int)) (hn : x.length ≤ 30) (hx : ∀ p ∈ x, p.length ≤ 140737488351232) (d : Nat) : ∀ (i : Nat) (c : BitVec 32) (m : BitVec 64), i + d = x.length →
    Ev (fun k => sum_Crc.l0 k x (x.length : Int) (i : Int) (c.toNat : Int) (m.toNat : Int)) ((cst c (x.drop i).flatten).toNat : Int) := by
  induction d with
  | zero =>
    intro i c m hi
    refine Ev.step (f := fun _ => some ((cst c (x.drop i).flatten).toNat : Int)) (fun k => ?_) (Ev.now _)
    simp only [sum_Crc.l0, sum_Sum_Crc.f, Option.bind_some]
    rw [if_neg (by omega), List.drop_of_length_le (by omega)]
    unfold cst crcs
    simp
  | succ d ih =>
    intro i c m hi
    have hlt : i < x.length := by omega
    refine Ev.step (fun k => by simp only [sum_Crc.l0]; rw [if_pos (by omega), if_pos (by omega), if_pos (by omega), rd1 hlt, wrap_next (by omega)]) ?_
    refine Ev.bind (add_st c m x[i] (hx _ (List.getElem_mem hlt))) ?_
    have := ih (i + 1) (cst c x[i]) (mst m x[i]) (by omega)
    rw [List.drop_eq_getElem_cons hlt, List.flatten_cons, ← cst_app]
    exact this
theorem crc_all (x : List (List Int)) (hn : x.length ≤ 30) (hx : ∀ p ∈ x, p.length ≤ 140737488351232) : Ev (fun k => sum_Crc.f k x) ((cst 0#32 x.flatten).toNat : Int) := by
  have h := crc_loop x hn hx x.length 0 0#32 0#64 (by omega)
  refine Ev.congr (fun k => ?_) h
  unfold sum_Crc.f sum_New.f
  simp only [Option.bind_some]
  rfl
end Go.Proofs.Ytdlfabbhdelinaa.Plain
