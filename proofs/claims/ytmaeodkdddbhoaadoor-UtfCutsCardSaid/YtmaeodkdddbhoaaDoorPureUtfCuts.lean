/- The pure statement of UtfCuts: what is cut of a text is a text, and at most three bytes shorter than it may be. No condition. -/
import Derived.Test.YtmaeodkdddbhoaaDoorSayUtfCuts
import Derived.Test.YtmaeodkdddbhoaaDoorAlive8
namespace Go.Proofs.YtmaeodkdddbhoaaDoor.Pure
open Go.RowKit Go.Proofs.YtmaeodkdddbhoaaDoor.Q Go.Proofs.YtmaeodkdddbhoaaDoorW.PrintWords Go.Proofs.YtmaeodkdddbhoaaDoorW.PrintLast Go.Proofs.YtmaeodkdddbhoaaDoorW.PrintMore Go.Proofs.YtmaeodkdddbhoaaDoor.Plain
open Go.Proofs.YtmaeodkdddbhoaaDoor.U8 (B nxt spec encB items text mend signs Right)
set_option linter.unusedVariables false
theorem width_le : ∀ (l : List UInt8), ∀ x ∈ items l, x.2.1 ≤ 4 := by
  refine U8.items_ind (by simp [items, U8.itemsN]) (fun l hl ih => ?_)
  rw [U8.items_cons hl]
  intro x hx
  rcases List.mem_cons.1 hx with rfl | hx
  · exact (U8.nxt_width hl).2.1
  · exact ih x hx
theorem in_u16 {x : Int} (h : (Lit.int .u16 x).wf = true) : 0 ≤ x ∧ x < 65536 := by
  simp [Lit.wf, IntKind.min, IntKind.max, IntKind.signed, IntKind.bits] at h
  omega
theorem UtfCuts : Say.UtfCuts := by
  intro s most hs hm
  have hm := in_u16 hm
  refine Ev.rounds (g := fun k => cringlelaw02_UtfCuts.f k s most) ?_
  unfold cringlelaw02_UtfCuts.f cringlelaw02_long.f
  simp only [Option.bind_some]
  refine Ev.ite (fun _ => alive_then) (fun h => ?_)
  have hn := of_decide_eq_false (Bool.eq_false_iff.mpr h)
  have hw : wrap64 most = most := by unfold wrap64; omega
  rw [hw]
  refine Ev.bind (cut_ev s most (by omega) (by omega)) ?_
  obtain ⟨p, q, h1, h2, h3, h4⟩ := U8.cutAt_parts most (items (D s)) 0
  rw [Nat.zero_add] at h2 h3 h4
  have hsum := U8.wsum_items (D s)
  rw [D_len] at hsum
  have hpq : U8.wsum p + U8.wsum q = s.size := by
    rw [← hsum, h1]
    unfold U8.wsum
    rw [List.map_append, List.sum_append]
  rw [h2]
  generalize hx : s.extract 0 (U8.wsum p) = x
  have hDx : D x = (D s).take (U8.wsum p) := by rw [← hx, D_to]
  have hsz : x.size = U8.wsum p := by rw [← D_len, hDx, List.length_take, D_len]; omega
  have hit : items (D x) = p := by rw [hDx]; exact U8.items_take _ p q h1
  have hcut : Ev (fun k => utf_Cut.f k x most) x := by
    have hc := cut_ev x most (by omega) (by omega)
    rw [hit, U8.cutAt_all most p 0 (by omega), Nat.zero_add, show x.extract 0 (U8.wsum p) = x from D_inj (by rw [D_to, List.take_of_length_le (by rw [D_len]; omega)])] at hc
    exact hc
  have hlast : Ev (fun k => (utf_Cut.f k x most).bind fun t => if t.toList = x.toList then (cringlelaw02_alive.f k).bind fun t => some t else some false) true :=
    Ev.bind hcut (Ev.congr (fun k => if_pos rfl) alive_then)
  have htail : Ev (fun k => if (x.size : Int) = (s.size : Int) then (utf_Cut.f k x most).bind fun t => if t.toList = x.toList then (cringlelaw02_alive.f k).bind fun t => some t else some false else if (x.size : Int) > wrap64 (most - 4) then (utf_Cut.f k x most).bind fun t => if t.toList = x.toList then (cringlelaw02_alive.f k).bind fun t => some t else some false else some false) true := by
    refine Ev.ite (fun _ => hlast) (fun hne => ?_)
    refine Ev.congr (fun k => if_pos ?_) hlast
    rcases h4 with rfl | ⟨y, r, rfl, hy⟩
    · simp [U8.wsum] at hpq
      unfold U8.wsum at hsz
      omega
    · have := width_le (D s) y (by rw [h1]; simp)
      unfold wrap64
      omega
  refine Ev.congr (fun k => if_neg (by omega)) ?_
  refine Ev.congr (fun k => if_neg (by omega)) ?_
  refine Ev.congr (fun k => if_pos (by omega)) ?_
  refine Ev.congr (fun k => if_pos (by omega)) ?_
  have hb : ((s.extract 0 ((x.size : Int) : Int).toNat).toList != x.toList) = false := by
    rw [Int.toNat_natCast, hsz, hx]
    simp
  rw [hb]
  refine Ev.step (fun k => by simp only [cringlelaw02_UtfCuts.j0]; rw [if_neg (by simp)]) ?_
  rw [hw]
  refine Ev.bind (now_of (istext_eq s)) ?_
  refine Ev.ite (fun ht => ?_) (fun _ => htail)
  refine Ev.bind (now_of (istext_eq x)) ?_
  refine Ev.congr (fun k => if_pos ?_) htail
  unfold text at ht ⊢
  rw [hit]
  rw [h1, List.all_append, Bool.and_eq_true] at ht
  exact ht.1
end Go.Proofs.YtmaeodkdddbhoaaDoor.Pure
