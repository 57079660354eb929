/- A journal's records, plainly: the record that bytes begin with, all that they have. No condition but those typed. -/
import Derived.Test.YtdlfabbhdelinaaCrcs
namespace Go.Proofs.Ytdlfabbhdelinaa.Jr
open Go.RowKit Go.Proofs.Ytdlfabbhdelinaa.P Go.Proofs.Ytdlfabbhdelinaa.Q Go.Proofs.Ytdlfabbhdelinaa.Plain Go.Proofs.YtdlfabbhdelinaaW.PrintWords Go.Proofs.YtdlfabbhdelinaaW.PrintLast Go.Proofs.YtdlfabbhdelinaaW.PrintMore
set_option linter.unusedVariables false
def crcI (l : List Int) : Int := ((cst 0#32 l).toNat : Int)
theorem crcI_in (l : List Int) : 0 ≤ crcI l ∧ crcI l < 4294967296 := by
  unfold crcI
  have := (cst 0#32 l).isLt
  omega
theorem or8_in (x c : Int) : 0 ≤ or8 x c ∧ or8 x c < 4294967296 := by
  unfold or8 Go.bits
  simp only []
  rw [IntKind.wrap_u32]
  omega
theorem rdN_in (l : List Int) : 0 ≤ rdN l ∧ rdN l < 4294967296 := or8_in _ _
def nextR (b : List Int) : List Int × Bool := if b.length < 8 then ([], false) else if rdN b = 0 ∨ 16384 < rdN b ∨ (b.length : Int) - 8 < rdN b then ([], false)
  else ((b.take (8 + (rdN b).toNat)).drop 8, crcI (b.take 4 ++ (b.take (8 + (rdN b).toNat)).drop 8) == rdN (b.drop 4))
theorem next_none {b : List Int} (h : b.length < 8) : nextR b = ([], false) := if_pos h
theorem next_bad {b : List Int} (h : ¬ b.length < 8) (h2 : rdN b = 0 ∨ 16384 < rdN b ∨ (b.length : Int) - 8 < rdN b) : nextR b = ([], false) := (if_neg h).trans (if_pos h2)
theorem next_rec {b : List Int} (h : ¬ b.length < 8) (h2 : ¬ (rdN b = 0 ∨ 16384 < rdN b ∨ (b.length : Int) - 8 < rdN b)) : nextR b = ((b.take (8 + (rdN b).toNat)).drop 8, crcI (b.take 4 ++ (b.take (8 + (rdN b).toNat)).drop 8) == rdN (b.drop 4)) := (if_neg h).trans (if_neg h2)
theorem now_of {α : Type} {g : Nat → Option α} {r : α} (h : ∀ k, g k = some r) : Ev g r := ⟨0, fun k _ => h k⟩
theorem next_ev (b : List Int) (hl : b.length ≤ 140737488351232) : Ev (fun k => journal_next.f k b) (nextR b) := by
  by_cases h8 : b.length < 8
  · rw [next_none h8]
    refine now_of (fun k => ?_)
    unfold journal_next.f
    rw [if_pos (by omega)]
  have hr := rdN_in b
  have e1 : ∀ k, journal_next.f k b = (if rdN b = 0 then (journal_next.j0 k b (rdN b) true) else (if rdN b > 16384 then (journal_next.j0 k b (rdN b) true) else (journal_next.j0 k b (rdN b) (decide ((wrap64 (rdN b)) > (wrap64 ((b.length : Int) - 8))))))) := fun k => by
    unfold journal_next.f journal_read.f
    rw [if_neg (by omega), if_pos (by omega)]
    rfl
  have w1 : wrap64 (rdN b) = rdN b := by unfold wrap64; omega
  have w2 : wrap64 ((b.length : Int) - 8) = (b.length : Int) - 8 := by unfold wrap64; omega
  have bad : Ev (fun k => journal_next.j0 k b (rdN b) true) ([], false) := Ev.step (f := fun _ => some ([], false)) (fun k => by simp [journal_next.j0]) (Ev.now _)
  by_cases h2 : rdN b = 0 ∨ 16384 < rdN b ∨ (b.length : Int) - 8 < rdN b
  · rw [next_bad h8 h2]
    refine Ev.congr e1 ?_
    by_cases a1 : rdN b = 0
    · exact Ev.congr (fun k => if_pos a1) bad
    refine Ev.congr (fun k => if_neg a1) ?_
    by_cases a2 : rdN b > 16384
    · exact Ev.congr (fun k => if_pos a2) bad
    refine Ev.congr (fun k => if_neg a2) ?_
    have a3 : decide ((wrap64 (rdN b)) > (wrap64 ((b.length : Int) - 8))) = true := decide_eq_true (by rw [w1, w2]; rcases h2 with h | h | h <;> omega)
    rw [a3]
    exact bad
  · rw [next_rec h8 h2]
    refine Ev.congr e1 ?_
    refine Ev.congr (fun k => if_neg (fun h => h2 (.inl h))) ?_
    refine Ev.congr (fun k => if_neg (fun h => h2 (.inr (.inl h)))) ?_
    have a3 : decide ((wrap64 (rdN b)) > (wrap64 ((b.length : Int) - 8))) = false := decide_eq_false (by rw [w1, w2]; omega)
    rw [a3]
    have w3 : wrap64 (8 + wrap64 (rdN b)) = 8 + rdN b := by rw [w1]; unfold wrap64; omega
    have w4 : (8 + rdN b).toNat = 8 + (rdN b).toNat := by omega
    refine Ev.step (fun k => by
      simp only [journal_next.j0]
      rw [if_neg (by simp), if_pos (by rw [w3]; omega), if_pos (by rw [w3]; omega), Option.bind_some, if_pos (by omega), w3, w4]) ?_
    refine Ev.bind (crc_all _ (by simp) (fun p hp => ?_)) ?_
    · simp only [List.mem_cons, List.not_mem_nil, or_false] at hp
      rcases hp with rfl | rfl
      · rw [List.length_take]; omega
      · rw [List.length_drop, List.length_take]; omega
    refine now_of (fun k => ?_)
    unfold journal_read.f
    rw [if_pos (by rw [List.length_drop]; omega)]
    simp [crcI]
theorem next_len {b : List Int} (h : (nextR b).2 = true) : 1 ≤ (nextR b).1.length ∧ (nextR b).1.length ≤ 16384 ∧ 8 + (nextR b).1.length ≤ b.length := by
  by_cases h8 : b.length < 8
  · rw [next_none h8] at h; cases h
  by_cases h2 : rdN b = 0 ∨ 16384 < rdN b ∨ (b.length : Int) - 8 < rdN b
  · rw [next_bad h8 h2] at h; cases h
  have hr := rdN_in b
  rw [next_rec h8 h2]
  show 1 ≤ ((b.take (8 + (rdN b).toNat)).drop 8).length ∧ ((b.take (8 + (rdN b).toNat)).drop 8).length ≤ 16384 ∧ 8 + ((b.take (8 + (rdN b).toNat)).drop 8).length ≤ b.length
  rw [List.length_drop, List.length_take]
  omega
theorem next_short (b : List Int) : (nextR b).1.length ≤ b.length := by
  by_cases h8 : b.length < 8
  · rw [next_none h8]; exact Nat.zero_le _
  by_cases h2 : rdN b = 0 ∨ 16384 < rdN b ∨ (b.length : Int) - 8 < rdN b
  · rw [next_bad h8 h2]; exact Nat.zero_le _
  rw [next_rec h8 h2]
  show ((b.take (8 + (rdN b).toNat)).drop 8).length ≤ _
  rw [List.length_drop, List.length_take]
  omega
def scanN : Nat → List Int → List (List Int)
  | 0, _ => []
  | k + 1, b => if (nextR b).2 = true then (nextR b).1 :: scanN k (b.drop (8 + (nextR b).1.length)) else []
def scanF (b : List Int) : List (List Int) := scanN b.length b
theorem scanN_enough : ∀ (k j : Nat) (b : List Int), b.length ≤ k → b.length ≤ j → scanN k b = scanN j b
  | 0, 0, _, _, _ => rfl
  | 0, j + 1, b, h, _ => by
    have : (nextR b).2 = false := by rw [next_none (by omega)]
    simp [scanN, this]
  | k + 1, 0, b, _, h => by
    have : (nextR b).2 = false := by rw [next_none (by omega)]
    simp [scanN, this]
  | k + 1, j + 1, b, h1, h2 => by
    by_cases h : (nextR b).2 = true
    · have hl := next_len h
      simp only [scanN, if_pos h]
      rw [scanN_enough k j _ (by rw [List.length_drop]; omega) (by rw [List.length_drop]; omega)]
    · simp only [scanN, if_neg h]
theorem scan_no {b : List Int} (h : (nextR b).2 = false) : scanF b = [] := by
  unfold scanF
  cases b.length with
  | zero => rfl
  | succ n => simp [scanN, h]
theorem scan_yes {b : List Int} (h : (nextR b).2 = true) : scanF b = (nextR b).1 :: scanF (b.drop (8 + (nextR b).1.length)) := by
  have hl := next_len h
  unfold scanF
  rw [scanN_enough b.length (b.length + 1) b (Nat.le_refl _) (Nat.le_succ _)]
  simp only [scanN, if_pos h]
  rw [scanN_enough b.length _ _ (by rw [List.length_drop]; omega) (Nat.le_refl _)]
/-- How many bytes records take. -/
def sz (l : List (List Int)) : Nat := (l.map fun r => 8 + r.length).sum
theorem sz_nil : sz [] = 0 := rfl
theorem sz_append (a b : List (List Int)) : sz (a ++ b) = sz a + sz b := by simp [sz]
theorem sz_one (r : List Int) : sz [r] = 8 + r.length := by simp [sz]
theorem sz_cons (r : List Int) (l : List (List Int)) : sz (r :: l) = 8 + r.length + sz l := by simp [sz]
end Go.Proofs.Ytdlfabbhdelinaa.Jr
