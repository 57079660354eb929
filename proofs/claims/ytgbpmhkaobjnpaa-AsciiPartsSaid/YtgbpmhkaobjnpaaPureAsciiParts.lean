/- The pure statement of AsciiParts: joining and splitting are the reference's. No condition. -/
import Derived.Test.YtgbpmhkaobjnpaaSayAsciiParts
import Derived.Test.YtgbpmhkaobjnpaaSplits
namespace Go.Proofs.Ytgbpmhkaobjnpaa.Pure
open Go.RowKit Go.Proofs.Ytgbpmhkaobjnpaa.Q Go.Proofs.YtgbpmhkaobjnpaaW.PrintWords Go.Proofs.YtgbpmhkaobjnpaaW.PrintLast Go.Proofs.YtgbpmhkaobjnpaaW.PrintMore Go.Proofs.Ytgbpmhkaobjnpaa.Plain
set_option linter.unusedVariables false
theorem parts_true (s : ByteArray) (p : List ByteArray) (b : Int) : Ev (fun k => cringlelaw01_AsciiParts.j1 k s p b true) true := by
  refine Ev.step (fun k => by simp only [cringlelaw01_AsciiParts.j1]; rw [if_pos trivial]) ?_
  exact alive2_then
theorem parts_false (s : ByteArray) (p : List ByteArray) (b : Int) (hb : 0 ≤ b ∧ b < 256) (hs : s.size ≤ 140737488351232) (hp : ∀ x ∈ p, x.size ≤ 140737488351232) (hl : p.length ≤ 100) : Ev (fun k => cringlelaw01_AsciiParts.j1 k s p b false) true := by
  refine Ev.step (fun k => by simp only [cringlelaw01_AsciiParts.j1]; rw [if_neg (by simp)]) ?_
  refine Ev.bind (ref_join_ev s p hs hp (by omega)) ?_
  unfold cringlelaw01_long.f
  refine Ev.ite (fun _ => alive2_then) (fun h => ?_)
  have hsz : (⟨(Lib.join (p.map (·.data.toList)) s.data.toList).toArray⟩ : ByteArray).size = (Lib.join (p.map (·.data.toList)) s.data.toList).length := by simp [ByteArray.size]
  rw [hsz] at h
  have hj : (Lib.join (p.map (·.data.toList)) s.data.toList).length ≤ 3000 := by
    have := of_decide_eq_false (Bool.eq_false_iff.mpr h)
    omega
  rw [join_eq s p (by omega) hj]
  generalize hT : (⟨(Lib.join (p.map (·.data.toList)) s.data.toList).toArray⟩ : ByteArray) = T at *
  refine Ev.congr (fun k => if_pos rfl) ?_
  refine Ev.bind (split_ev T b hb (by omega)) ?_
  refine Ev.bind (ref_split_ev T b (by omega)) ?_
  have hlen := sp_len b (bytesOf T) []
  rw [bytes_len] at hlen
  refine Ev.bind (same_ev _ (by unfold strs; rw [List.length_map]; omega)) ?_
  exact Ev.congr (fun k => if_pos rfl) alive2_then
theorem parts_loop (s : ByteArray) (p L : List ByteArray) (b : Int) (hb : 0 ≤ b ∧ b < 256) (hs : s.size ≤ 140737488351232) (hp : ∀ x ∈ p, x.size ≤ 140737488351232) (hL : L = p.take 100) (d : Nat) : ∀ (i : Nat) (n : Int), i + d = L.length → (s.size : Int) ≤ n → n ≤ s.size + 3000 * i →
    Ev (fun k => cringlelaw01_AsciiParts.l0 k s p b n L (L.length : Int) (i : Int)) true := by
  have hll : L.length ≤ 100 := by rw [hL, List.length_take]; omega
  induction d with
  | zero =>
    intro i n hi h1 h2
    refine Ev.step (f := fun k => if n > 3000 then cringlelaw01_AsciiParts.j1 k s p b true else cringlelaw01_AsciiParts.j1 k s p b (decide ((p.length : Int) > 100))) (fun k => ?_) ?_
    · simp only [cringlelaw01_AsciiParts.l0]
      rw [if_neg (by omega)]
    · refine Ev.ite (fun _ => parts_true s p b) (fun hn => ?_)
      by_cases hl : (p.length : Int) > 100
      · rw [decide_eq_true hl]; exact parts_true s p b
      · rw [decide_eq_false hl]
        exact parts_false s p b hb hs hp (by omega)
  | succ d ih =>
    intro i n hi h1 h2
    have hlt : i < L.length := by omega
    have hm : mn (L[i].size : Int) 3000 ≤ 3000 ∧ 0 ≤ mn (L[i].size : Int) 3000 ∧ (mn (L[i].size : Int) 3000 < 3000 → L[i].size ≤ 3000) := by
      unfold mn
      split <;> omega
    have hw : wrap64 (n + mn (L[i].size : Int) 3000) = n + mn (L[i].size : Int) 3000 := wrap64_id (by omega) (by omega)
    refine Ev.step (f := fun k => cringlelaw01_AsciiParts.l0 k s p b (n + mn (L[i].size : Int) 3000) L (L.length : Int) ((i + 1 : Nat) : Int)) (fun k => ?_) ?_
    · simp only [cringlelaw01_AsciiParts.l0]
      rw [if_pos (by omega), if_pos (by omega), if_pos (by omega), texts_at hlt, hw, next (by omega)]
    · exact ih (i + 1) _ (by omega) (by omega) (by omega)
theorem AsciiParts : Say.AsciiParts := by
  intro a0 l1 a2 h0 h1 h2
  have hb := in_u8 h2
  have hs : a0.size ≤ 140737488351232 := h0
  refine Ev.rounds (g := fun k => cringlelaw01_AsciiParts.f k a0 l1 a2) ?_
  unfold cringlelaw01_AsciiParts.f
  have hm : mn (l1.length : Int) 100 = ((min l1.length 100 : Nat) : Int) := by
    unfold mn
    split <;> omega
  refine Ev.congr (fun k => if_pos (by omega)) ?_
  refine Ev.congr (fun k => if_pos (by omega)) ?_
  rw [hm, Int.toNat_natCast]
  have hL : l1.take (min l1.length 100) = l1.take 100 := by
    by_cases h : l1.length ≤ 100
    · rw [List.take_of_length_le (by omega), List.take_of_length_le h]
    · rw [show min l1.length 100 = 100 by omega]
  rw [hL]
  exact parts_loop a0 l1 (l1.take 100) a2 hb hs h1.2 rfl _ 0 _ (Nat.zero_add _) (Int.le_refl _) (by omega)
end Go.Proofs.Ytgbpmhkaobjnpaa.Pure
