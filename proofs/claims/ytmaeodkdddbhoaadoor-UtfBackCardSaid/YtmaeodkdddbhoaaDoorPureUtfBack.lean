/- The pure statement of UtfBack: what is put is next, whatever stands behind. No condition. -/
import Derived.Test.YtmaeodkdddbhoaaDoorSayUtfBack
import Derived.Test.YtmaeodkdddbhoaaDoorAlive8
namespace Go.Proofs.YtmaeodkdddbhoaaDoor.Pure
open Go.RowKit Go.Proofs.YtmaeodkdddbhoaaDoor.Q Go.Proofs.YtmaeodkdddbhoaaDoorW.PrintWords Go.Proofs.YtmaeodkdddbhoaaDoorW.PrintLast Go.Proofs.YtmaeodkdddbhoaaDoorW.PrintMore Go.Proofs.YtmaeodkdddbhoaaDoor.Plain
open Go.Proofs.YtmaeodkdddbhoaaDoor.U8 (B nxt spec encB items text mend signs Right)
set_option linter.unusedVariables false
theorem enc_of (c : Int) : ∃ d : Nat, Right (d : Int) ∧ Lib.encodeRuneZ c = Lib.encodeRuneZ (d : Int) ∧ ((Right c ∧ (d : Int) = c) ∨ (¬ Right c ∧ d = 65533)) := by
  by_cases h : Right c
  · have h0 : 0 ≤ c := h.1
    exact ⟨c.toNat, by rw [Int.toNat_of_nonneg h0]; exact h, by rw [Int.toNat_of_nonneg h0], .inl ⟨h, Int.toNat_of_nonneg h0⟩⟩
  · refine ⟨65533, U8.right_65533, ?_, .inr ⟨h, rfl⟩⟩
    have hb : Lib.encodeRuneZ c = [239, 191, 189] := Lib.encodeRuneZ_bad (by unfold Right at h; omega)
    rw [hb]
    rfl
theorem UtfBack : Say.UtfBack := by
  intro c s hc hs
  have hc := in_i32 hc
  refine Ev.rounds (g := fun k => cringlelaw02_UtfBack.f k c s) ?_
  unfold cringlelaw02_UtfBack.f
  refine Ev.bind (put_ev [] [c] (by simp) (by simpa using hc) (by simp)) ?_
  rw [List.nil_append, show putZ [c] = Lib.encodeRuneZ c from by simp [putZ]]
  obtain ⟨d, hd, he, hor⟩ := enc_of c
  rw [he]
  have hle := encZ_le (d : Int)
  have hlen : (encB d).length = (Lib.encodeRuneZ (d : Int)).length := by unfold encB; rw [List.length_map]
  have hel := U8.enc_length d hd
  refine Ev.congr (fun k => if_pos (by rw [str_size]; omega)) ?_
  have hD : D (strOfNums (Lib.encodeRuneZ (d : Int)) ++ s) = encB d ++ D s := by
    show (strOfNums (Lib.encodeRuneZ (d : Int)) ++ s).data.toList = _
    rw [ByteArray.toList_data_append]
    rfl
  have hne : D (strOfNums (Lib.encodeRuneZ (d : Int)) ++ s) ≠ [] := by
    rw [hD]
    intro e
    have := congrArg List.length e
    rw [List.length_append, List.length_nil] at this
    omega
  have hsz : (strOfNums (Lib.encodeRuneZ (d : Int)) ++ s).size ≤ 1000000000000000000 := by
    have := congrArg List.length hD
    rw [D_len, List.length_append, D_len] at this
    omega
  have hn := next_ev _ hsz hne
  rw [hD, U8.nxt_enc d hd] at hn
  refine Ev.bind hn ?_
  refine Ev.bind (now_of (rright_eq c)) ?_
  unfold told
  dsimp only
  rw [hlen]
  rcases hor with ⟨hr, hdc⟩ | ⟨hr, hdc⟩
  · rw [decide_eq_true hr]
    refine Ev.congr (fun k => if_pos rfl) ?_
    refine Ev.congr (fun k => if_pos hdc) ?_
    refine Ev.congr (fun k => if_pos rfl) ?_
    refine Ev.congr (fun k => if_pos (by omega)) ?_
    refine Ev.congr (fun k => if_pos (by omega)) ?_
    exact Ev.congr (fun k => if_pos rfl) alive_then
  · rw [decide_eq_false hr]
    refine Ev.congr (fun k => if_neg (by simp)) ?_
    refine Ev.congr (fun k => if_pos (by omega)) ?_
    refine Ev.congr (fun k => if_pos rfl) ?_
    refine Ev.congr (fun k => if_pos (by omega)) ?_
    refine Ev.congr (fun k => if_pos (by omega)) ?_
    exact Ev.congr (fun k => if_pos rfl) alive_then
end Go.Proofs.YtmaeodkdddbhoaaDoor.Pure
