/- The pure statement of RefsText. No condition. -/
import Derived.Test.YtekijemacjpceaaDoorSayRefsText
import Derived.Test.YtekijemacjpceaaDoorConn
import Derived.Test.YtekijemacjpceaaDoorText11
namespace Go.Proofs.YtekijemacjpceaaDoor.Pure
open Go.RowKit Go.Proofs.YtekijemacjpceaaDoor.Q Go.Proofs.YtekijemacjpceaaDoorW.PrintWords Go.Proofs.YtekijemacjpceaaDoorW.PrintLast Go.Proofs.YtekijemacjpceaaDoorW.PrintMore Go.Proofs.YtekijemacjpceaaDoor.Plain
open Go.Proofs.YtekijemacjpceaaDoor.U8 (B nxt spec encB items text mend signs Right)
open Go.Proofs.YtekijemacjpceaaDoor.Rf
set_option linter.unusedVariables false
theorem dec_same (attr : Bool) (l : List UInt8) (h : (38 : UInt8) ∉ l) : dec attr l = l := by
  have := dec_plain attr l [] (fun x hx e => h (by rw [← e]; exact hx))
  rw [List.append_nil, dec_nil, List.append_nil] at this
  exact this
theorem text_end (s : ByteArray) (attr : Bool) (hs : s.size ≤ 1500) : Ev (fun k => cringlelaw11_RefsText.l0 k s (strOf (dec attr (D s))) (decide ((38 : UInt8) ∈ D s)) (s.size : Int) (s.size : Int)) true := by
  have hlen := dec_len attr (D s).length (D s) (Nat.le_refl _)
  have hle : (((strOf (dec attr (D s))).size : Nat) : Int) ≤ (s.size : Int) := by
    rw [strOf_size, ← D_len]
    omega
  have i1 : Ev (fun k => cringleref02_IsText.f k s) (text (D s)) := ristext_ev (D s) s rfl (by omega)
  have i2 : Ev (fun k => cringleref02_IsText.f k (strOf (dec attr (D s)))) (text (dec attr (D s))) := ristext_ev (dec attr (D s)) (strOf (dec attr (D s))) rfl (by omega)
  refine Ev.step (fun k => by simp only [cringlelaw11_RefsText.l0]; rw [if_neg (by omega)]) ?_
  refine Ev.bind i1 ?_
  have fin : ∀ b : Bool, Ev (fun k => if decide ((38 : UInt8) ∈ D s) = true then (if ((strOf (dec attr (D s))).size : Int) ≤ (s.size : Int) then ((cringlelaw11_alive.f k).bind fun t => some t) else some false) else (if (strOf (dec attr (D s))).toList = s.toList then (if ((strOf (dec attr (D s))).size : Int) ≤ (s.size : Int) then ((cringlelaw11_alive.f k).bind fun t => some t) else some false) else some false)) true := fun _ => by
    by_cases h : (38 : UInt8) ∈ D s
    · refine Ev.congr (fun k => (if_pos (decide_eq_true h)).trans (if_pos hle)) ?_
      exact alive_then
    · refine Ev.congr (fun k => (if_neg (by rw [decide_eq_false h]; simp)).trans ((if_pos (list_same (by rw [D_str]; exact dec_same attr _ h))).trans (if_pos hle))) ?_
      exact alive_then
  by_cases h : text (D s) = true
  · refine Ev.congr (fun k => if_pos h) ?_
    rw [dec_text attr (D s).length (D s) (Nat.le_refl _) h] at i2
    refine Ev.bind i2 ?_
    refine Ev.congr (fun k => if_pos rfl) ?_
    exact fin true
  · refine Ev.congr (fun k => if_neg h) ?_
    exact fin true
theorem text_loop (s : ByteArray) (attr : Bool) (hs : s.size ≤ 1500) (d : Nat) : ∀ i : Nat, i + d = s.size → Ev (fun k => cringlelaw11_RefsText.l0 k s (strOf (dec attr (D s))) (decide ((38 : UInt8) ∈ (D s).take i)) (s.size : Int) (i : Int)) true := by
  induction d with
  | zero =>
    intro i hi
    have := text_end s attr hs
    rw [show i = s.size from by omega, List.take_of_length_le (by rw [D_len]; omega)]
    exact this
  | succ d ih =>
    intro i hi
    have hlt : i < (D s).length := by rw [D_len]; omega
    have hbt := bt_get s i hlt
    have hrec := ih (i + 1) (by omega)
    rw [List.take_add_one, List.getElem?_eq_getElem hlt] at hrec
    simp only [Option.toList_some, List.mem_append, List.mem_singleton] at hrec
    refine Ev.step (fun k => by simp only [cringlelaw11_RefsText.l0]; rw [if_pos (by omega), hbt, next (by omega)]) ?_
    generalize (D s)[i]'hlt = c at *
    by_cases h : (38 : UInt8) ∈ (D s).take i
    · refine Ev.congr (fun k => if_pos (decide_eq_true h)) ?_
      rw [show decide ((38 : UInt8) ∈ (D s).take i ∨ (38 : UInt8) = c) = true from decide_eq_true (.inl h)] at hrec
      exact hrec
    · refine Ev.congr (fun k => (if_neg (by rw [decide_eq_false h]; simp)).trans ((if_pos (by omega)).trans (if_pos (by omega)))) ?_
      have e : (((c.toNat : Nat) : Int) == 38) = decide ((38 : UInt8) ∈ (D s).take i ∨ (38 : UInt8) = c) := by
        by_cases hc : (38 : UInt8) = c
        · rw [decide_eq_true (.inr hc), ← hc]
          rfl
        · rw [decide_eq_false (fun q => q.elim h hc)]
          exact beq_eq_false_iff_ne.2 (fun q => hc (UInt8.toNat_inj.1 (by show 38 = c.toNat; omega)))
      rw [e]
      exact hrec
theorem RefsText : Say.RefsText := by
  intro s attr hs
  refine Ev.rounds (g := fun k => cringlelaw11_RefsText.f k s attr) ?_
  unfold cringlelaw11_RefsText.f
  rw [long_eq]
  refine Ev.bind (Ev.now _) ?_
  by_cases h : 1500 < s.size
  · refine Ev.congr (fun k => if_pos (decide_eq_true h)) ?_
    exact alive_then
  · refine Ev.congr (fun k => if_neg (by simpa using h)) ?_
    refine Ev.bind (Decode_ev s attr (by omega)) ?_
    exact text_loop s attr (by omega) s.size 0 (by omega)
end Go.Proofs.YtekijemacjpceaaDoor.Pure
