/- The pure statement of PercentBack. No condition. -/
import Derived.Test.YtopaheopdpkjbaaDoorSayPercentBack
import Derived.Test.YtopaheopdpkjbaaDoorConn
namespace Go.Proofs.YtopaheopdpkjbaaDoor.Pure
open Go.RowKit Go.Proofs.YtopaheopdpkjbaaDoor.Q Go.Proofs.YtopaheopdpkjbaaDoorW.PrintWords Go.Proofs.YtopaheopdpkjbaaDoorW.PrintLast Go.Proofs.YtopaheopdpkjbaaDoorW.PrintMore Go.Proofs.YtopaheopdpkjbaaDoor.Plain
open Go.Proofs.YtopaheopdpkjbaaDoor.U8 (B nxt spec encB items text mend signs Right)
open Go.Proofs.YtopaheopdpkjbaaDoor.Rf
set_option linter.unusedVariables false
theorem plain_low : ∀ n : Fin 256, (Pc.plain n.val = true ∨ n.val = 37) → 32 < n.val ∧ n.val < 127 ∧ n.val ≠ 38 ∧ n.val ≠ 61 ∧ n.val ≠ 43 ∧ n.val ≠ 35 ∧ n.val ≠ 63 ∧ n.val ≠ 47 := by decide +kernel
theorem marked_low (l : List UInt8) (x : UInt8) (h : x ∈ Pc.mark [] l) : 32 < x.toNat ∧ x.toNat < 127 ∧ x.toNat ≠ 38 ∧ x.toNat ≠ 61 ∧ x.toNat ≠ 43 ∧ x.toNat ≠ 35 ∧ x.toNat ≠ 63 ∧ x.toNat ≠ 47 := by
  refine plain_low ⟨x.toNat, x.toNat_lt⟩ ?_
  rcases Pc.mark_has _ _ _ h with h | h | h
  · exact .inl h
  · cases h
  · exact .inr (by rw [h]; rfl)
theorem back_loop (s : ByteArray) (m : List UInt8) (hm : m = Pc.mark [] (D s)) (hs : s.size ≤ 3000) (d : Nat) : ∀ i : Nat, i + d = m.length → Ev (fun k => cringlelaw03_PercentBack.l0 k s (strOf m) (m.length : Int) (i : Int)) true := by
  have hml := Pc.mark_len [] (D s)
  rw [← hm, D_len] at hml
  have hz := strOf_size m
  induction d with
  | zero =>
    intro i hi
    refine Ev.step (fun k => by simp only [cringlelaw03_PercentBack.l0]; rw [if_neg (by omega)]) ?_
    refine Ev.bind (un_ev _ (by omega)) ?_
    rw [D_str, hm, Pc.un_mark [] (by simp), str_D]
    refine Ev.congr (fun k => (if_pos rfl).trans (if_pos ?_)) ?_
    · rw [← hm, hz]
      unfold wrap64
      omega
    · exact alive_then
  | succ d ih =>
    intro i hi
    have hlt : i < (D (strOf m)).length := by rw [D_str]; omega
    have hb := bt_get (strOf m) i hlt
    have hmem : (D (strOf m))[i] ∈ Pc.mark [] (D s) := by rw [← hm]; exact List.getElem_mem hlt
    obtain ⟨a1, a2, a3, a4, a5, a6, a7, a8⟩ := marked_low _ _ hmem
    generalize (D (strOf m))[i] = c at *
    refine Ev.step (fun k => ?_) (ih (i + 1) (by omega))
    simp only [cringlelaw03_PercentBack.l0]
    rw [if_pos (by omega), if_pos (by omega), if_pos (by omega), hb, if_neg (by omega), if_neg (by omega), if_neg (by omega), if_neg (by omega), if_neg (by omega), if_neg (by omega), if_neg (by omega), if_neg (by omega), next (by omega)]
theorem PercentBack : Say.PercentBack := by
  intro s hs
  refine Ev.rounds (g := fun k => cringlelaw03_PercentBack.f k s) ?_
  unfold cringlelaw03_PercentBack.f
  rw [long_eq]
  refine Ev.bind (Ev.now _) ?_
  by_cases h : 3000 < s.size
  · exact Ev.congr (fun k => if_pos (decide_eq_true h)) alive_then
  · refine Ev.congr (fun k => if_neg (by simpa using h)) ?_
    rw [mark_eq s _ (by omega)]
    refine Ev.bind (Ev.now _) ?_
    rw [strOf_size]
    exact back_loop s _ rfl (by omega) _ 0 (Nat.zero_add _)
end Go.Proofs.YtopaheopdpkjbaaDoor.Pure
