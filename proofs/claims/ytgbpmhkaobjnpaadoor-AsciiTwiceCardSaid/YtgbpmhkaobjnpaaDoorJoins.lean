/- Texts' rows compared and joined: what the printed functions, and the reference's, come to. No condition but those typed. -/
import Derived.Test.YtgbpmhkaobjnpaaDoorSayAsciiTexts
import Derived.Test.YtgbpmhkaobjnpaaDoorSayAsciiTwice
import Derived.Test.YtgbpmhkaobjnpaaDoorTexts
import Derived.Lib.Join
import Derived.Lib.Bytealg
namespace Go.Proofs.YtgbpmhkaobjnpaaDoor.Plain
open Go.RowKit Go.Proofs.YtgbpmhkaobjnpaaDoor.Q Go.Proofs.YtgbpmhkaobjnpaaDoorW.PrintWords Go.Proofs.YtgbpmhkaobjnpaaDoorW.PrintLast Go.Proofs.YtgbpmhkaobjnpaaDoorW.PrintMore
set_option linter.unusedVariables false
theorem alive2_ev : Ev (fun k => cringlelaw01_alive.f k) true := Ev.of (k := 40) cringlelaw01_alive.mono (by decide +kernel)
theorem alive2_then : Ev (fun k => (cringlelaw01_alive.f k).bind fun t => some t) true := Ev.bind alive2_ev (Ev.now _)
theorem same_loop (l : List ByteArray) (hl : l.length ≤ 1000000) (d : Nat) : ∀ i : Nat, i + d = l.length → Ev (fun k => cringleref01_Texts.l0 k l l (i : Int)) true := by
  induction d with
  | zero =>
    intro i hi
    refine Ev.step (f := fun _ => some true) (fun k => ?_) (Ev.now _)
    simp only [cringleref01_Texts.l0]
    rw [if_neg (by omega)]
  | succ d ih =>
    intro i hi
    refine Ev.step (f := fun k => cringleref01_Texts.l0 k l l ((i + 1 : Nat) : Int)) (fun k => ?_) (ih (i + 1) (by omega))
    simp only [cringleref01_Texts.l0]
    rw [if_pos (by omega), if_pos (by omega), if_pos (by omega), if_true, next (by omega)]
theorem same_ev (l : List ByteArray) (hl : l.length ≤ 1000000) : Ev (fun k => cringleref01_Texts.f k l l) true := by
  unfold cringleref01_Texts.f
  refine Ev.congr (fun k => if_pos rfl) ?_
  exact same_loop l hl _ 0 (Nat.zero_add _)
/-- Two equal texts' rows. -/
theorem cat_data (a b : ByteArray) : (a ++ b).data.toList = a.data.toList ++ b.data.toList := by
  simp
theorem ref_join (sep : ByteArray) (p : List ByteArray) (hs : sep.size ≤ 140737488351232) (hp : ∀ x ∈ p, x.size ≤ 140737488351232) (hl : p.length ≤ 10000) (d : Nat) : ∀ (i : Nat) (acc : ByteArray), i + d = p.length → 1 ≤ i → acc.size ≤ 281474976702464 * i →
    Ev (fun k => cringleref01_Join.l0 k sep p acc (i : Int)) ⟨(acc.data.toList ++ Lib.joinTail sep.data.toList ((p.drop i).map (·.data.toList))).toArray⟩ := by
  induction d with
  | zero =>
    intro i acc hi h1 ha
    refine Ev.step (f := fun _ => some acc) (fun k => ?_) ?_
    · simp only [cringleref01_Join.l0]
      rw [if_neg (by omega)]
    · rw [List.drop_of_length_le (by omega)]
      simp only [List.map_nil, Lib.joinTail, List.flatten_nil, List.append_nil]
      exact Ev.now _
  | succ d ih =>
    intro i acc hi h1 ha
    have hlt : i < p.length := by omega
    have hx := hp _ (List.getElem_mem hlt)
    have hsz1 : (acc ++ sep).size = acc.size + sep.size := by
      rw [← bytes_len, bytes_cat, List.length_append, bytes_len, bytes_len]
    have hsz2 : ((acc ++ sep) ++ p[i]).size = acc.size + sep.size + p[i].size := by
      rw [← bytes_len, bytes_cat, List.length_append, bytes_len, bytes_len, hsz1]
    refine Ev.step (f := fun k => cringleref01_Join.l0 k sep p ((acc ++ sep) ++ p[i]) ((i + 1 : Nat) : Int)) (fun k => ?_) ?_
    · simp only [cringleref01_Join.l0]
      rw [if_pos (by omega), if_pos (by omega), if_pos (by omega), if_pos (by omega), texts_at hlt, if_pos (by omega), next (by omega)]
    · have := ih (i + 1) ((acc ++ sep) ++ p[i]) (by omega) (by omega) (by omega)
      rw [cat_data, cat_data] at this
      rw [drop_at hlt]
      simp only [List.map_cons, Lib.joinTail, List.flatten_cons] at this ⊢
      rw [List.append_assoc, List.append_assoc] at this
      rw [List.append_assoc]
      exact this
theorem ref_join_ev (sep : ByteArray) (p : List ByteArray) (hs : sep.size ≤ 140737488351232) (hp : ∀ x ∈ p, x.size ≤ 140737488351232) (hl : p.length ≤ 10000) :
    Ev (fun k => cringleref01_Join.f k sep p) ⟨(Lib.join (p.map (·.data.toList)) sep.data.toList).toArray⟩ := by
  unfold cringleref01_Join.f
  rcases p with _ | ⟨x, p⟩
  · refine Ev.step (f := fun _ => some (⟨#[]⟩ : ByteArray)) (fun k => ?_) (Ev.now _)
    simp only [cringleref01_Join.l0]
    rw [if_neg (by simp)]
  · have hx := hp x (by simp)
    have he : (⟨#[]⟩ : ByteArray) ++ x = x := bytes_inj (by rw [bytes_cat]; rfl)
    refine Ev.step (f := fun k => cringleref01_Join.l0 k sep (x :: p) x ((1 : Nat) : Int)) (fun k => ?_) ?_
    · simp only [cringleref01_Join.l0]
      have hr : rdOf ByteArray.empty (x :: p) 0 = x := rfl
      have hz : (⟨#[]⟩ : ByteArray).size = 0 := rfl
      have hw : wrap64 (0 + 1) = ((1 : Nat) : Int) := by unfold wrap64; omega
      rw [if_pos (by rw [List.length_cons]; omega), if_neg (by omega), if_pos (by omega), hr, he, hz, if_pos (by omega), hw]
    · have := ref_join sep (x :: p) hs hp hl p.length 1 x (by simp; omega) (by omega) (by omega)
      rw [List.map_cons, Lib.join_cons]
      simpa using this
theorem join_eq (sep : ByteArray) (p : List ByteArray) (hl : p.length ≤ 10000) (h : (Lib.join (p.map (·.data.toList)) sep.data.toList).length ≤ 100000000) :
    ascii_Join.f sep p = some ⟨(Lib.join (p.map (·.data.toList)) sep.data.toList).toArray⟩ := by
  unfold ascii_Join.f strings_Join.f
  rw [if_pos (by omega), if_pos (by omega)]
  rfl
end Go.Proofs.YtgbpmhkaobjnpaaDoor.Plain
