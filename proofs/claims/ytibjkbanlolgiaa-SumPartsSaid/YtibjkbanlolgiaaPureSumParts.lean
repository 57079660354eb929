/- The pure statement of SumParts: the sum and the mark of any parts are the reference's, as they are joined. No condition. -/
import Derived.Test.YtibjkbanlolgiaaSaySumParts
import Derived.Test.YtibjkbanlolgiaaLaws
namespace Go.Proofs.Ytibjkbanlolgiaa.Pure
open Go.RowKit Go.Proofs.Ytibjkbanlolgiaa.Q Go.Proofs.YtibjkbanlolgiaaW.PrintWords Go.Proofs.YtibjkbanlolgiaaW.PrintLast Go.Proofs.Ytibjkbanlolgiaa.Plain
set_option linter.unusedVariables false
def B64 : BitVec 64 := 14695981039346656037#64
def cst (c : BitVec 32) (l : List Int) : BitVec 32 := ~~~(crcs (~~~c) l)
def mst (m : BitVec 64) (l : List Int) : BitVec 64 := marks (m ^^^ B64) l ^^^ B64
theorem cst_app (c : BitVec 32) (a b : List Int) : cst (cst c a) b = cst c (a ++ b) := by
  unfold cst crcs
  rw [BitVec.not_not, List.foldl_append]
theorem mst_app (m : BitVec 64) (a b : List Int) : mst (mst m a) b = mst m (a ++ b) := by
  unfold mst marks
  rw [BitVec.xor_assoc, BitVec.xor_self, BitVec.xor_zero, List.foldl_append]
theorem add_st (c : BitVec 32) (m : BitVec 64) (l : List Int) (hn : l.length ≤ 140737488351232) : Ev (fun k => sum_Sum_Add.f k (c.toNat : Int) (m.toNat : Int) l) (((cst c l).toNat : Int), ((mst m l).toNat : Int)) := add_ev c m l hn
theorem rd1 {l : List (List Int)} {i : Nat} (h : i < l.length) : rd_L1 l (i : Int) = l[i] := by
  unfold rd_L1
  rw [Int.toNat_natCast, List.getD_eq_getElem?_getD, List.getElem?_eq_getElem h]
  rfl
theorem rds {l : List ByteArray} {i : Nat} (h : i < l.length) : rdOf ByteArray.empty l (i : Int) = l[i] := by
  unfold rdOf
  rw [Int.toNat_natCast, List.getD_eq_getElem?_getD, List.getElem?_eq_getElem h]
  rfl
theorem crc_loop (x : List (List Int)) (hn : x.length ≤ 30) (hx : ∀ p ∈ x, p.length ≤ 140737488351232) (d : Nat) : ∀ (i : Nat) (c : BitVec 32) (m : BitVec 64), i + d = x.length →
    Ev (fun k => sum_Crc.l0 k x (x.length : Int) (i : Int) (c.toNat : Int) (m.toNat : Int)) ((cst c (x.drop i).flatten).toNat : Int) := by
  induction d with
  | zero =>
    intro i c m hi
    refine Ev.step (f := fun _ => some ((cst c (x.drop i).flatten).toNat : Int)) (fun k => ?_) (Ev.now _)
    simp only [sum_Crc.l0, sum_Sum_Crc.f, Option.bind_some]
    rw [if_neg (by omega), List.drop_of_length_le (by omega)]
    unfold cst crcs
    simp
  | succ d ih =>
    intro i c m hi
    have hlt : i < x.length := by omega
    refine Ev.step (fun k => by simp only [sum_Crc.l0]; rw [if_pos (by omega), if_pos (by omega), if_pos (by omega), rd1 hlt, wrap_next (by omega)]) ?_
    refine Ev.bind (add_st c m x[i] (hx _ (List.getElem_mem hlt))) ?_
    have := ih (i + 1) (cst c x[i]) (mst m x[i]) (by omega)
    rw [List.drop_eq_getElem_cons hlt, List.flatten_cons, ← cst_app]
    exact this
theorem crc_all (x : List (List Int)) (hn : x.length ≤ 30) (hx : ∀ p ∈ x, p.length ≤ 140737488351232) : Ev (fun k => sum_Crc.f k x) ((cst 0#32 x.flatten).toNat : Int) := by
  have h := crc_loop x hn hx x.length 0 0#32 0#64 (by omega)
  refine Ev.congr (fun k => ?_) h
  unfold sum_Crc.f sum_New.f
  simp only [Option.bind_some]
  rfl
/-- The bytes of texts, each with a zero behind. -/
def zeroed (l : List ByteArray) : List Int := (l.map fun s => bytesOf s ++ [0]).flatten
theorem zeroed_cons (a : ByteArray) (l : List ByteArray) : zeroed (a :: l) = (bytesOf a ++ [0]) ++ zeroed l := by simp [zeroed]
theorem zeroed_snoc (a : ByteArray) (l : List ByteArray) : zeroed (l ++ [a]) = (zeroed l ++ bytesOf a) ++ [0] := by simp [zeroed]
theorem zeroed_length (l : List ByteArray) (h : ∀ t ∈ l, t.size ≤ 3000) : (zeroed l).length ≤ l.length * 3001 := by
  induction l with
  | nil => simp [zeroed]
  | cons a l ih =>
    have h1 := h a (by simp)
    have h2 := ih (fun t ht => h t (by simp [ht]))
    have h3 : (zeroed (a :: l)).length = (bytesOf a).length + 1 + (zeroed l).length := by simp [zeroed]; omega
    rw [h3, bytesOf_length, List.length_cons, Nat.succ_mul]
    omega
theorem mark_loop (x : List ByteArray) (hn : x.length ≤ 30) (hx : ∀ t ∈ x, t.size ≤ 3000) (d : Nat) : ∀ (i : Nat) (c : BitVec 32) (m : BitVec 64), i + d = x.length →
    Ev (fun k => sum_Mark.l0 k x (x.length : Int) (i : Int) (c.toNat : Int) (m.toNat : Int)) ⟨(low (mst m (zeroed (x.drop i)) ^^^ B64).toNat 16).toArray⟩ := by
  induction d with
  | zero =>
    intro i c m hi
    refine Ev.step (fun k => by simp only [sum_Mark.l0, sum_Sum_Mark.f, Option.bind_some]; rw [if_neg (by omega), begin64]) ?_
    have hm : mst m (zeroed (x.drop i)) = m := by
      rw [List.drop_of_length_le (by omega)]
      unfold mst marks zeroed
      simp [BitVec.xor_assoc]
    rw [hm]
    refine Ev.bind (hex_ev _ 16 (by omega) (by have := (m ^^^ 14695981039346656037#64).isLt; omega)) ?_
    exact Ev.now _
  | succ d ih =>
    intro i c m hi
    have hlt : i < x.length := by omega
    have hs := hx _ (List.getElem_mem hlt)
    refine Ev.step (fun k => by simp only [sum_Mark.l0]; rw [if_pos (by omega), if_pos (by omega), if_pos (by omega), rds hlt, if_pos (by omega), wrap_next (by omega)]) ?_
    refine Ev.bind (add_st c m (bytesOf x[i]) (by rw [bytesOf_length]; omega)) ?_
    refine Ev.bind (add_st _ _ [0] (by simp)) ?_
    have := ih (i + 1) (cst (cst c (bytesOf x[i])) [0]) (mst (mst m (bytesOf x[i])) [0]) (by omega)
    have hz : zeroed (x.drop i) = (bytesOf x[i] ++ [0]) ++ zeroed (x.drop (i + 1)) := by
      rw [List.drop_eq_getElem_cons hlt, zeroed_cons]
    rw [hz, ← mst_app, ← mst_app]
    exact this
theorem mark_all (x : List ByteArray) (hn : x.length ≤ 30) (hx : ∀ t ∈ x, t.size ≤ 3000) : Ev (fun k => sum_Mark.f k x) ⟨(low (mst 0#64 (zeroed x) ^^^ B64).toNat 16).toArray⟩ := by
  have h := mark_loop x hn hx x.length 0 0#32 0#64 (by omega)
  refine Ev.congr (fun k => ?_) h
  unfold sum_Mark.f sum_New.f
  simp only [Option.bind_some]
  rfl
theorem rmarks_loop (x : List ByteArray) (hn : x.length ≤ 30) (hx : ∀ t ∈ x, t.size ≤ 3000) (d : Nat) : ∀ (i : Nat), i + d = x.length →
    Ev (fun k => cringleref08_Marks.l0 k x (zeroed (x.take i)) (i : Int)) ⟨(low (marks B64 (zeroed x)).toNat 16).toArray⟩ := by
  induction d with
  | zero =>
    intro i hi
    have hl := zeroed_length x hx
    refine Ev.step (fun k => by simp only [cringleref08_Marks.l0]; rw [if_neg (by omega), List.take_of_length_le (by omega)]) ?_
    have hm := rmark_ev (zeroed x) (by omega)
    rw [BitVec.zero_xor] at hm
    refine Ev.bind hm ?_
    refine Ev.bind (rhex_ev _ 16 (by omega) (by have := (marks 14695981039346656037#64 (zeroed x)).isLt; omega)) ?_
    exact Ev.now _
  | succ d ih =>
    intro i hi
    have hlt : i < x.length := by omega
    have hs := hx _ (List.getElem_mem hlt)
    have hl := zeroed_length (x.take i) (fun t ht => hx t (List.mem_of_mem_take ht))
    rw [List.length_take] at hl
    have hl2 : (zeroed (x.take i)).length ≤ 30 * 3001 := Nat.le_trans hl (Nat.mul_le_mul_right _ (by omega))
    have hz : zeroed (x.take (i + 1)) = (zeroed (x.take i) ++ bytesOf x[i]) ++ [0] := by
      rw [List.take_succ_eq_append_getElem hlt, zeroed_snoc]
    refine Ev.step (f := fun k => cringleref08_Marks.l0 k x (zeroed (x.take (i + 1))) ((i + 1 : Nat) : Int)) (fun k => ?_) (ih (i + 1) (by omega))
    simp only [cringleref08_Marks.l0]
    rw [if_pos (by omega), if_pos (by omega), rds hlt, if_pos (by omega), Option.bind_some, if_pos (by rw [List.length_append, bytesOf_length]; omega), wrap_next (by omega), hz]
theorem rmarks_all (x : List ByteArray) (hn : x.length ≤ 30) (hx : ∀ t ∈ x, t.size ≤ 3000) : Ev (fun k => cringleref08_Marks.f k x) ⟨(low (marks B64 (zeroed x)).toNat 16).toArray⟩ :=
  rmarks_loop x hn hx x.length 0 (by omega)
theorem strOf_size (l : List Int) : (strOfNums l).size = l.length := by
  unfold strOfNums
  simp [ByteArray.size]
theorem byte_of' {x : Int} (h : (Lit.int .u8 x).wf = true) : 0 ≤ x ∧ x < 256 := by
  simp [Lit.wf] at h
  have h1 : IntKind.u8.min = 0 := rfl
  have h2 : IntKind.u8.max = 255 := rfl
  omega
theorem parts_loop (x : List (List Int)) (hx : ∀ p ∈ x, p.length ≤ 140737488351232 ∧ ∀ b ∈ p, 0 ≤ b ∧ b < 256) (y : List (List Int)) (hy : y = x.take 30) (d : Nat) : ∀ (i : Nat), i + d = y.length →
    (∀ p ∈ y.take i, p.length ≤ 3000) → ((y.take i).flatten.length ≤ 6000) →
    Ev (fun k => cringlelaw08_SumParts.l0 k x ((y.take i).flatten) ((y.take i).map strOfNums) y (y.length : Int) (i : Int) ((cst 0#32 (y.take i).flatten).toNat : Int) ((mst 0#64 (y.take i).flatten).toNat : Int)) true := by
  have hy30 : y.length ≤ 30 := by rw [hy, List.length_take]; omega
  induction d with
  | zero =>
    intro i hi hp hf
    have hti : y.take i = y := List.take_of_length_le (by omega)
    rw [hti] at hp hf ⊢
    by_cases h30 : (x.length : Int) > 30
    · refine Ev.step (f := fun _ => some true) (fun k => ?_) (Ev.now _)
      simp only [cringlelaw08_SumParts.l0, cringlelaw08_alive.f, Option.bind_some]
      rw [if_neg (by omega), if_pos h30]
    · have hyx : y = x := by rw [hy, List.take_of_length_le (by omega)]
      refine Ev.step (fun k => by simp only [cringlelaw08_SumParts.l0, cringlelaw08_alive.f, sum_Sum_Crc.f, sum_Sum_Mark.f, Option.bind_some]; rw [if_neg (by omega), if_neg h30]) ?_
      subst hyx
      have hb : ∀ b ∈ y.flatten, 0 ≤ b ∧ b < 256 := by
        intro b hb
        obtain ⟨p, hp1, hp2⟩ := List.mem_flatten.1 hb
        exact (hx p hp1).2 b hp2
      have hts : ∀ t ∈ y.map strOfNums, t.size ≤ 3000 := by
        intro t ht
        obtain ⟨p, hp1, rfl⟩ := List.mem_map.1 ht
        rw [strOf_size]
        exact hp p hp1
      have htl : (y.map strOfNums).length ≤ 30 := by rw [List.length_map]; exact hy30
      have hrc := rcrc_ev y.flatten (by omega) hb
      refine Ev.bind (crc_all y hy30 (fun p hp => (hx p hp).1)) ?_
      have hc : ((cst 0#32 y.flatten).toNat : Int) = ((~~~(crcs (~~~0#32) y.flatten)).toNat : Int) := rfl
      have hmk : (mst 0#64 y.flatten ^^^ 14695981039346656037#64) = marks (0#64 ^^^ 14695981039346656037#64) y.flatten := by
        unfold mst
        rw [BitVec.xor_assoc, show B64 ^^^ 14695981039346656037#64 = 0#64 from by decide, BitVec.xor_zero]
        rfl
      have hlast : mst 0#64 (zeroed (y.map strOfNums)) ^^^ B64 = marks B64 (zeroed (y.map strOfNums)) := by
        unfold mst
        rw [BitVec.xor_assoc, BitVec.xor_self, BitVec.xor_zero, BitVec.zero_xor]
      refine Ev.bind hrc ?_
      simp only [if_pos hc]
      refine Ev.bind hrc ?_
      simp only [if_pos hc, begin64, hmk]
      refine Ev.bind (rmark_ev y.flatten (by omega)) ?_
      simp only [if_true]
      refine Ev.bind (mark_all _ htl hts) ?_
      refine Ev.bind (rmarks_all _ htl hts) ?_
      simp only [hlast, if_true]
      exact Ev.now _
  | succ d ih =>
    intro i hi hp hf
    have hlt : i < y.length := by omega
    have hin : y[i] ∈ x := by
      have h1 : y[i] ∈ y := List.getElem_mem hlt
      have h2 : ∀ p, p ∈ y → p ∈ x := fun p hp => List.mem_of_mem_take (by rw [hy] at hp; exact hp)
      exact h2 _ h1
    have hxi := hx _ hin
    have hbail : ∀ k, cringlelaw08_SumParts.j1 (k + 1) x (y.take i).flatten ((y.take i).map strOfNums) y[i] y (y.length : Int) (i : Int) true ((cst 0#32 (y.take i).flatten).toNat : Int) ((mst 0#64 (y.take i).flatten).toNat : Int) = some true := by
      intro k
      simp only [cringlelaw08_SumParts.j1, cringlelaw08_alive.f, Option.bind_some, if_true]
    by_cases hlong : (y[i].length : Int) > 3000
    · refine Ev.step (fun k => by simp only [cringlelaw08_SumParts.l0, cringlelaw08_long.f]; rw [if_pos (by omega), if_pos (by omega), if_pos (by omega), rd1 hlt, Option.bind_some, decide_eq_true hlong, if_pos rfl]) ?_
      exact Ev.step (f := fun _ => some true) (fun k => hbail k) (Ev.now _)
    · refine Ev.step (fun k => by simp only [cringlelaw08_SumParts.l0, cringlelaw08_long.f]; rw [if_pos (by omega), if_pos (by omega), if_pos (by omega), rd1 hlt, Option.bind_some, decide_eq_false hlong, if_neg (by decide)]) ?_
      by_cases h3 : ((y.take i).flatten.length : Int) > 3000
      · rw [decide_eq_true h3]
        exact Ev.step (f := fun _ => some true) (fun k => hbail k) (Ev.now _)
      · rw [decide_eq_false h3]
        refine Ev.step (fun k => by simp only [cringlelaw08_SumParts.j1]; rw [if_neg (by decide), if_pos (by omega), if_pos (by rw [List.length_map, List.length_take]; omega), wrap_next (by omega)]) ?_
        refine Ev.bind (add_st _ _ y[i] hxi.1) ?_
        have ht : y.take (i + 1) = y.take i ++ [y[i]] := List.take_succ_eq_append_getElem hlt
        have hft : (y.take (i + 1)).flatten = (y.take i).flatten ++ y[i] := by rw [ht, List.flatten_append]; simp only [List.flatten_cons, List.flatten_nil, List.append_nil]
        have hmt : (y.take (i + 1)).map strOfNums = (y.take i).map strOfNums ++ [strOfNums y[i]] := by rw [ht, List.map_append, List.map_cons, List.map_nil]
        have := ih (i + 1) (by omega) (by
          intro p hp'
          rw [ht] at hp'
          rcases List.mem_append.1 hp' with h | h
          · exact hp p h
          · rw [List.mem_singleton.1 h]; omega) (by rw [hft, List.length_append]; omega)
        rw [hft, hmt, ← cst_app, ← mst_app] at this
        exact this
theorem SumParts : Say.SumParts := by
  rintro x ⟨hn, hw⟩
  refine Ev.rounds (g := fun k => cringlelaw08_SumParts.f k x) ?_
  unfold cringlelaw08_SumParts.f sum_New.f
  simp only [Option.bind_some]
  have hm : (mn (x.length : Int) 30).toNat = min x.length 30 := by unfold mn; split <;> omega
  have hm0 : 0 ≤ mn (x.length : Int) 30 := by unfold mn; split <;> omega
  have hm1 : mn (x.length : Int) 30 ≤ (x.length : Int) := by unfold mn; split <;> omega
  simp only [if_pos hm0, if_pos hm1]
  have ht : x.take (mn (x.length : Int) 30).toNat = x.take 30 := by
    rw [hm]
    rcases Nat.le_total x.length 30 with h | h
    · rw [Nat.min_eq_left h, List.take_length, List.take_of_length_le h]
    · rw [Nat.min_eq_right h]
  rw [ht]
  have h := parts_loop x (fun p hp => ⟨by have := (hw p hp).1; omega, fun b hb => byte_of' ((hw p hp).2 b hb)⟩) (x.take 30) rfl (x.take 30).length 0 (by omega) (by simp) (by simp)
  rw [List.take_zero, List.flatten_nil, List.map_nil] at h
  exact h
end Go.Proofs.Ytibjkbanlolgiaa.Pure
