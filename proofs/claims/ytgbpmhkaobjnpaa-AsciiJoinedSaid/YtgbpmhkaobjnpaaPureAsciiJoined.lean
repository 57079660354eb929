/- The pure statement of AsciiJoined: what was split is joined, and split again as it was. No condition. -/
import Derived.Test.YtgbpmhkaobjnpaaSayAsciiJoined
import Derived.Test.YtgbpmhkaobjnpaaSplits
namespace Go.Proofs.Ytgbpmhkaobjnpaa.Pure
open Go.RowKit Go.Proofs.Ytgbpmhkaobjnpaa.Q Go.Proofs.YtgbpmhkaobjnpaaW.PrintWords Go.Proofs.YtgbpmhkaobjnpaaW.PrintLast Go.Proofs.YtgbpmhkaobjnpaaW.PrintMore Go.Proofs.Ytgbpmhkaobjnpaa.Plain
set_option linter.unusedVariables false
/-- The rows behind the first one, each with the separator ahead. -/
def tails (b : Int) (r : List (List Int)) : List Int := (r.map ([b] ++ ·)).flatten
theorem sp_back (b : Int) (l : List Int) : ∀ acc, ∃ h t, sp b acc l = h :: t ∧ h ++ tails b t = acc ++ l := by
  induction l with
  | nil => intro acc; exact ⟨acc, [], rfl, by simp [tails]⟩
  | cons x l ih =>
    intro acc
    rw [sp]
    split
    · rename_i hx
      obtain ⟨h, t, e, he⟩ := ih []
      refine ⟨acc, h :: t, by rw [e], ?_⟩
      rw [List.nil_append] at he
      rw [tails, List.map_cons, List.flatten_cons, ← tails, List.append_assoc, he, hx]
      rfl
    · obtain ⟨h, t, e, he⟩ := ih (acc ++ [x])
      exact ⟨h, t, e, by rw [he]; simp⟩
theorem sp_not (b : Int) (l : List Int) : ∀ acc, b ∉ acc → ∀ q ∈ sp b acc l, b ∉ q := by
  induction l with
  | nil => intro acc ha q hq; obtain rfl : q = acc := by simpa [sp] using hq
           exact ha
  | cons x l ih =>
    intro acc ha q hq
    rw [sp] at hq
    split at hq
    · rcases List.mem_cons.1 hq with rfl | hq
      · exact ha
      · exact ih [] (by simp) q hq
    · rename_i hx
      refine ih (acc ++ [x]) ?_ q hq
      intro h
      rcases List.mem_append.1 h with h | h
      · exact ha h
      · simp at h
        exact hx h.symm
theorem sp_range (b : Int) (l : List Int) : ∀ acc, (∀ x ∈ acc, 0 ≤ x ∧ x < 256) → (∀ x ∈ l, 0 ≤ x ∧ x < 256) → ∀ q ∈ sp b acc l, (∀ x ∈ q, 0 ≤ x ∧ x < 256) ∧ q.length ≤ acc.length + l.length := by
  induction l with
  | nil => intro acc ha hl q hq; obtain rfl : q = acc := by simpa [sp] using hq
           exact ⟨ha, by simp⟩
  | cons x l ih =>
    intro acc ha hl q hq
    have hl2 : ∀ y ∈ l, 0 ≤ y ∧ y < 256 := fun y hy => hl y (by simp [hy])
    rw [sp] at hq
    split at hq
    · rcases List.mem_cons.1 hq with rfl | hq
      · exact ⟨ha, by omega⟩
      · have := ih [] (by simp) hl2 q hq
        exact ⟨this.1, by have h2 := this.2; simp at h2 ⊢; omega⟩
    · have := ih (acc ++ [x]) (by
        intro y hy
        rcases List.mem_append.1 hy with hy | hy
        · exact ha y hy
        · obtain rfl : y = x := by simpa using hy
          exact hl y (by simp)) hl2 q hq
      exact ⟨this.1, by have h2 := this.2; simp at h2 ⊢; omega⟩
theorem tails_map (b : Int) (r : List (List Int)) : (tails b r).map (fun n => UInt8.ofNat n.toNat) = Lib.joinTail (strOfNums [b]).data.toList ((strs r).map (·.data.toList)) := by
  induction r with
  | nil => rfl
  | cons q r ih =>
    rw [tails, List.map_cons, List.flatten_cons, ← tails, List.map_append, ih]
    rfl
theorem joined_eq (s : ByteArray) (b : Int) : (⟨(Lib.join ((strs (sp b [] (bytesOf s))).map (·.data.toList)) (strOfNums [b]).data.toList).toArray⟩ : ByteArray) = s := by
  obtain ⟨h, t, e, he⟩ := sp_back b (bytesOf s) []
  rw [e, strs, List.map_cons, List.map_cons, Lib.join_cons, ← strs, ← tails_map, strOfNums_data, ← List.map_append, he, List.nil_append]
  exact str_bytes s
theorem inner (s : ByteArray) (b : Int) (P : List ByteArray) (q : List Int) (n i : Int) (hq : ∀ x ∈ q, 0 ≤ x ∧ x < 256) (hb : b ∉ q) (hl : q.length ≤ 3000) (hn : Ev (fun k => cringlelaw01_AsciiJoined.l0 k s b P P n (wrap64 (i + 1))) true) (d : Nat) : ∀ j : Nat, j + d = q.length →
    Ev (fun k => cringlelaw01_AsciiJoined.l1 k s b P (strOfNums q) P n i (q.length : Int) (j : Int)) true := by
  have hbq : bytesOf (strOfNums q) = q := bytes_str hq
  induction d with
  | zero =>
    intro j hj
    refine Ev.step (fun k => by simp only [cringlelaw01_AsciiJoined.l1]; rw [if_neg (by omega)]) hn
  | succ d ih =>
    intro j hj
    have hlt : j < q.length := by omega
    have hbt : bt (strOfNums q) (j : Int) = q[j] := by
      rw [bytes_bt (by rw [hbq]; exact hlt)]
      simp only [hbq]
    refine Ev.step (f := fun k => cringlelaw01_AsciiJoined.l1 k s b P (strOfNums q) P n i (q.length : Int) ((j + 1 : Nat) : Int)) (fun k => ?_) (ih (j + 1) (by omega))
    simp only [cringlelaw01_AsciiJoined.l1]
    rw [if_pos (by omega), if_pos (by omega), str_size, if_pos (by omega), hbt, if_neg (fun e => hb (by rw [← e]; exact List.getElem_mem hlt)), next (by omega)]
theorem last (s : ByteArray) (b : Int) (hb : 0 ≤ b ∧ b < 256) (hs : s.size ≤ 3000) (n : Int) (i : Int) (hi : n ≤ i) :
    Ev (fun k => cringlelaw01_AsciiJoined.l0 k s b (strs (sp b [] (bytesOf s))) (strs (sp b [] (bytesOf s))) n i) true := by
  have hlen := sp_len b (bytesOf s) []
  rw [bytes_len] at hlen
  have hpos : 0 < (strs (sp b [] (bytesOf s))).length := by
    obtain ⟨h, t, e, _⟩ := sp_back b (bytesOf s) []
    rw [e]; simp [strs]
  have hsl : (strs (sp b [] (bytesOf s))).length ≤ 3001 := by unfold strs; rw [List.length_map]; omega
  have hj := joined_eq s b
  have hjl : (Lib.join ((strs (sp b [] (bytesOf s))).map (·.data.toList)) (strOfNums [b]).data.toList).length = s.size := by
    have := congrArg ByteArray.size hj
    rw [← this]
    simp [ByteArray.size]
  have hjoin := join_eq (strOfNums [b]) (strs (sp b [] (bytesOf s))) (by omega) (by omega)
  rw [hj] at hjoin
  have hsplit := split_ev s b hb hs
  generalize strs (sp b [] (bytesOf s)) = P at *
  refine Ev.step (fun k => by simp only [cringlelaw01_AsciiJoined.l0, Option.bind_some]; rw [if_neg (by omega), if_pos (by omega), hjoin, Option.bind_some, if_pos rfl, Option.bind_some]) ?_
  refine Ev.bind hsplit ?_
  refine Ev.bind (same_ev _ (by omega)) ?_
  exact Ev.congr (fun k => if_pos rfl) alive2_then
theorem outer (s : ByteArray) (b : Int) (hb : 0 ≤ b ∧ b < 256) (hs : s.size ≤ 3000) (d : Nat) : ∀ i : Nat, i + d = (strs (sp b [] (bytesOf s))).length →
    Ev (fun k => cringlelaw01_AsciiJoined.l0 k s b (strs (sp b [] (bytesOf s))) (strs (sp b [] (bytesOf s))) ((strs (sp b [] (bytesOf s))).length : Int) (i : Int)) true := by
  have hlen := sp_len b (bytesOf s) []
  rw [bytes_len] at hlen
  have hsl : (strs (sp b [] (bytesOf s))).length ≤ 3001 := by unfold strs; rw [List.length_map]; omega
  induction d with
  | zero =>
    intro i hi
    exact last s b hb hs _ _ (by omega)
  | succ d ih =>
    intro i hi
    have hlt : i < (strs (sp b [] (bytesOf s))).length := by omega
    have hlt2 : i < (sp b [] (bytesOf s)).length := by unfold strs at hlt; rwa [List.length_map] at hlt
    have hget : (strs (sp b [] (bytesOf s)))[i] = strOfNums (sp b [] (bytesOf s))[i] := by simp [strs]
    have hmem : (sp b [] (bytesOf s))[i] ∈ sp b [] (bytesOf s) := List.getElem_mem hlt2
    obtain ⟨hr, hl⟩ := sp_range b (bytesOf s) [] (by simp) (fun x hx => bytes_range hx) _ hmem
    have hnb := sp_not b (bytesOf s) [] (by simp) _ hmem
    rw [bytes_len, List.length_nil] at hl
    refine Ev.step (f := fun k => cringlelaw01_AsciiJoined.l1 k s b (strs (sp b [] (bytesOf s))) (strOfNums (sp b [] (bytesOf s))[i]) (strs (sp b [] (bytesOf s))) ((strs (sp b [] (bytesOf s))).length : Int) (i : Int) ((sp b [] (bytesOf s))[i].length : Int) ((0 : Nat) : Int)) (fun k => ?_) ?_
    · simp only [cringlelaw01_AsciiJoined.l0]
      rw [if_pos (by omega), if_pos (by omega), if_pos (by omega), texts_at hlt, hget, str_size]
      rfl
    · refine inner s b _ _ _ _ hr hnb (by omega) ?_ _ 0 (Nat.zero_add _)
      rw [next (by omega)]
      exact ih (i + 1) (by omega)
theorem AsciiJoined : Say.AsciiJoined := by
  intro a0 a1 h0 h1
  have hb := in_u8 h1
  refine Ev.rounds (g := fun k => cringlelaw01_AsciiJoined.f k a0 a1) ?_
  unfold cringlelaw01_AsciiJoined.f cringlelaw01_long.f
  refine Ev.ite (fun _ => alive2_then) (fun h => ?_)
  have hs : a0.size ≤ 3000 := by
    have := of_decide_eq_false (Bool.eq_false_iff.mpr h)
    omega
  refine Ev.bind (split_ev a0 a1 hb hs) ?_
  exact outer a0 a1 hb hs _ 0 (Nat.zero_add _)
end Go.Proofs.Ytgbpmhkaobjnpaa.Pure
