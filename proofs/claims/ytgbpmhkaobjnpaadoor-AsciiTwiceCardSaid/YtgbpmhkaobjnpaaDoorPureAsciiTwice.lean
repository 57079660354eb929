/- The pure statement of AsciiTwice: lower, trim and squeeze twice are once; words have no blanks. No condition. -/
import Derived.Test.YtgbpmhkaobjnpaaDoorSayAsciiTwice
import Derived.Test.YtgbpmhkaobjnpaaDoorLows
namespace Go.Proofs.YtgbpmhkaobjnpaaDoor.Pure
open Go.RowKit Go.Proofs.YtgbpmhkaobjnpaaDoor.Q Go.Proofs.YtgbpmhkaobjnpaaDoorW.PrintWords Go.Proofs.YtgbpmhkaobjnpaaDoorW.PrintLast Go.Proofs.YtgbpmhkaobjnpaaDoorW.PrintMore Go.Proofs.YtgbpmhkaobjnpaaDoor.Plain
set_option linter.unusedVariables false
theorem wd_word (q : List Int) : ∀ (acc r : List Int), (∀ x ∈ q, isB x = false) → wd acc (q ++ r) = wd (acc ++ q) r := by
  induction q with
  | nil => intro acc r _; simp
  | cons x q ih =>
    intro acc r h
    have hx := h x (by simp)
    rw [List.cons_append, wd, if_neg (by simp [hx]), ih _ _ (fun y hy => h y (by simp [hy]))]
    simp
theorem wd_one {q : List Int} (h : good q) : wd [] q = [q] := by
  have := wd_word q [] [] h.2
  rw [List.append_nil, List.nil_append] at this
  rw [this, wd, if_neg h.1]
theorem wd_tails (r : List (List Int)) : ∀ q, good q → (∀ p ∈ r, good p) → wd q ((r.map ([32] ++ ·)).flatten) = q :: r := by
  induction r with
  | nil => intro q hq _; rw [List.map_nil, List.flatten_nil, wd, if_neg hq.1]
  | cons p r ih =>
    intro q hq hr
    have hp := hr p (by simp)
    rw [List.map_cons, List.flatten_cons, List.append_assoc, List.singleton_append, wd, if_pos (by decide), if_neg hq.1, wd_word p [] _ hp.2, List.nil_append]
    rw [ih p hp (fun x hx => hr x (by simp [hx]))]
theorem wd_jn (ws : List (List Int)) (h : ∀ q ∈ ws, good q) : wd [] (jn ws) = ws := by
  rcases ws with _ | ⟨q, r⟩
  · rfl
  · rw [jn, wd_word q [] _ (h q (by simp)).2, List.nil_append]
    exact wd_tails r q (h q (by simp)) (fun x hx => h x (by simp [hx]))
theorem trimR_last (l : List Int) (x : Int) (h : isB x = false) : trimR (l ++ [x]) = l ++ [x] := by
  rw [trimR_snoc, if_neg (by simp [h])]
theorem trimL_head (l : List Int) (x : Int) (h : isB x = false) : trimL (x :: l) = x :: l := by
  rw [trimL_cons, if_neg (by simp [h])]
/-- A row with no blank at its ends. -/
theorem trim_id (l : List Int) (h1 : ∀ x, l.head? = some x → isB x = false) (h2 : ∀ x, l.getLast? = some x → isB x = false) : trim l = l := by
  unfold trim
  have hr : trimR l = l := by
    rcases List.eq_nil_or_concat l with rfl | ⟨m, x, rfl⟩
    · rfl
    · rw [List.concat_eq_append] at *
      exact trimR_last m x (h2 x (by simp))
  rw [hr]
  rcases l with _ | ⟨x, l⟩
  · rfl
  · exact trimL_head l x (h1 x rfl)
theorem trimL_ends (l : List Int) : ∀ x, (trimL l).head? = some x → isB x = false := by
  induction l with
  | nil => intro x h; cases h
  | cons y l ih =>
    intro x h
    rw [trimL_cons] at h
    split at h
    · exact ih x h
    · rename_i hy
      injection h with h
      subst h
      simpa using hy
theorem trimR_ends (l : List Int) : ∀ x, (trimR l).getLast? = some x → isB x = false := by
  intro x h
  have : trimR l = (trimL l.reverse).reverse := rfl
  rw [this, List.getLast?_reverse] at h
  exact trimL_ends _ x h
theorem trim_twice (l : List Int) : trim (trim l) = trim l := by
  apply trim_id
  · exact trimL_ends _
  · unfold trim
    rw [trim_comm]
    exact trimR_ends _
theorem jn_head (ws : List (List Int)) (h : ∀ q ∈ ws, good q) : ∀ x, (jn ws).head? = some x → isB x = false := by
  rcases ws with _ | ⟨q, r⟩
  · intro x hx; cases hx
  · intro x hx
    obtain ⟨h1, h2⟩ := h q (by simp)
    rcases q with _ | ⟨y, q⟩
    · exact absurd rfl h1
    · have : x = y := by
        rw [jn, List.cons_append, List.head?_cons] at hx
        injection hx with hx
        exact hx.symm
      rw [this]
      exact h2 y (by simp)
theorem tails_last (r : List (List Int)) : ∀ q, good q → (∀ p ∈ r, good p) → ∀ x, (q ++ (r.map ([32] ++ ·)).flatten).getLast? = some x → isB x = false := by
  induction r with
  | nil =>
    intro q hq _ x hx
    rw [List.map_nil, List.flatten_nil, List.append_nil] at hx
    exact hq.2 x (List.mem_of_getLast? hx)
  | cons p r ih =>
    intro q hq hr x hx
    have hp := hr p (by simp)
    refine ih p hp (fun z hz => hr z (by simp [hz])) x ?_
    rw [List.map_cons, List.flatten_cons, List.append_assoc] at hx
    have hne : p ++ (r.map ([32] ++ ·)).flatten ≠ [] := fun e => hp.1 (List.append_eq_nil_iff.1 e).1
    rw [← List.append_assoc, List.getLast?_append] at hx
    cases hl : (p ++ (r.map ([32] ++ ·)).flatten).getLast? with
    | none => exact absurd (List.getLast?_eq_none_iff.1 hl) hne
    | some y =>
      rw [hl] at hx
      simpa using hx
theorem jn_last (ws : List (List Int)) (h : ∀ q ∈ ws, good q) : ∀ x, (jn ws).getLast? = some x → isB x = false := by
  rcases ws with _ | ⟨q, r⟩
  · intro x hx; cases hx
  · exact tails_last r q (h q (by simp)) (fun p hp => h p (by simp [hp]))
theorem jn_in (ws : List (List Int)) (h : ∀ q ∈ ws, ∀ x ∈ q, 0 ≤ x ∧ x < 256) : ∀ x ∈ jn ws, (0:Int) ≤ x ∧ x < 256 := by
  rcases ws with _ | ⟨q, r⟩
  · intro x hx; cases hx
  · intro x hx
    rw [jn, List.mem_append] at hx
    rcases hx with hx | hx
    · exact h q (by simp) x hx
    · obtain ⟨l, hl, hx⟩ := List.mem_flatten.1 hx
      obtain ⟨p, hp, rfl⟩ := List.mem_map.1 hl
      rcases List.mem_append.1 hx with hx | hx
      · obtain rfl : x = 32 := by simpa using hx
        decide
      · exact h p (by simp [hp]) x hx
/-- The words' length, a blank behind each. -/
theorem jn_le (l : List Int) : ∀ acc, (jn (wd acc l)).length ≤ acc.length + l.length ∧ (((wd acc l).map ([32] ++ ·)).flatten).length ≤ acc.length + l.length + 1 := by
  induction l with
  | nil =>
    intro acc
    rw [wd]
    split
    · simp [jn]
    · simp [jn]
  | cons x l ih =>
    intro acc
    rw [wd]
    have h1 := ih []
    have h2 := ih (acc ++ [x])
    rw [List.length_append, List.length_singleton] at h2
    rw [List.length_nil] at h1
    rw [List.length_cons]
    split
    · split
      · omega
      · constructor
        · rw [jn, List.length_append]; omega
        · rw [List.map_cons, List.flatten_cons, List.length_append, List.length_append, List.length_singleton]; omega
    · omega
theorem last (s : ByteArray) (hs : s.size ≤ 3000) (L : List ByteArray) (n i : Int) (h : n ≤ i) : Ev (fun k => cringlelaw01_AsciiTwice.l0 k s L n i) true := by
  have hg : ∀ q ∈ wd [] (bytesOf s), good q := wd_good (bytesOf s) [] (by simp)
  have hr : ∀ q ∈ wd [] (bytesOf s), ∀ x ∈ q, (0:Int) ≤ x ∧ x < 256 := fun q hq => (wd_range (bytesOf s) [] (by simp) (fun x hx => bytes_range hx) q hq).1
  have hcb : bytesOf (strOfNums (jn (wd [] (bytesOf s)))) = jn (wd [] (bytesOf s)) := bytes_str (jn_in _ hr)
  have hw := wd_jn _ hg
  have hjl := (jn_le (bytesOf s) []).1
  rw [bytes_len, List.length_nil] at hjl
  have htr : ∀ x ∈ trim (bytesOf s), (0:Int) ≤ x ∧ x < 256 := by
    intro x hx
    unfold trim trimL trimR at hx
    have h1 := (List.dropWhile_suffix isB).subset hx
    have h2 := List.mem_reverse.1 h1
    have h3 := (List.dropWhile_suffix isB).subset h2
    exact bytes_range (List.mem_reverse.1 h3)
  have htb : bytesOf (strOfNums (trim (bytesOf s))) = trim (bytesOf s) := bytes_str htr
  have hts : (strOfNums (trim (bytesOf s))).size ≤ s.size := by
    rw [str_size]
    unfold trim trimL trimR
    have h1 := (List.dropWhile_suffix isB (l := (List.dropWhile isB (bytesOf s).reverse).reverse)).length_le
    have h2 := (List.dropWhile_suffix isB (l := (bytesOf s).reverse)).length_le
    rw [List.length_reverse] at h1 h2
    rw [bytes_len] at h2
    omega
  have hls := lower_size s
  have hsq := squeeze_ev s (by omega)
  have hsz : (strOfNums (jn (wd [] (bytesOf s)))).size ≤ 3000 := by rw [str_size]; omega
  have hsq2 := squeeze_ev (strOfNums (jn (wd [] (bytesOf s)))) (by omega)
  have hw2 := words_ev (strOfNums (jn (wd [] (bytesOf s)))) (by omega)
  have htc := asc_trim (strOfNums (jn (wd [] (bytesOf s)))) (by omega)
  rw [hcb] at hsq2 hw2 htc
  rw [hw] at hsq2 hw2
  rw [trim_id _ (jn_head _ hg) (jn_last _ hg)] at htc
  have htt := asc_trim (strOfNums (trim (bytesOf s))) (by omega)
  rw [htb, trim_twice] at htt
  refine Ev.step (fun k => by simp only [cringlelaw01_AsciiTwice.l0]; rw [if_neg (by omega), asc_lower s (by omega), asc_trim s (by omega), Option.bind_some, Option.bind_some]) ?_
  refine Ev.bind hsq ?_
  rw [asc_lower (lower s) (by omega), lower_twice, htt, htc]
  simp only [Option.bind_some, if_true]
  refine Ev.bind hsq2 ?_
  refine Ev.congr (fun k => if_pos rfl) ?_
  refine Ev.bind hw2 ?_
  refine Ev.bind (words_ev s (by omega)) ?_
  refine Ev.bind (same_ev _ (by have := (strs_small s (by omega)).1; omega)) ?_
  refine Ev.congr (fun k => if_pos rfl) ?_
  rw [asc_same _ _ (by omega) (by omega), lower_twice]
  simp only [Option.bind_some, beq_self_eq_true, if_true]
  exact alive2_then
theorem loop (s : ByteArray) (hs : s.size ≤ 3000) (d : Nat) : ∀ i : Nat, i + d = (strs (wd [] (bytesOf s))).length → Ev (fun k => cringlelaw01_AsciiTwice.l0 k s (strs (wd [] (bytesOf s))) ((strs (wd [] (bytesOf s))).length : Int) (i : Int)) true := by
  have hsl := (strs_small s (by omega)).1
  have hss := (strs_small s (by omega)).2.1
  induction d with
  | zero => intro i hi; exact last s hs _ _ _ (by omega)
  | succ d ih =>
    intro i hi
    have hlt : i < (strs (wd [] (bytesOf s))).length := by omega
    have hlt2 : i < (wd [] (bytesOf s)).length := by unfold strs at hlt; rwa [List.length_map] at hlt
    have hget : (strs (wd [] (bytesOf s)))[i] = strOfNums (wd [] (bytesOf s))[i] := by simp [strs]
    have hmem : (wd [] (bytesOf s))[i] ∈ wd [] (bytesOf s) := List.getElem_mem hlt2
    have hgood := wd_good (bytesOf s) [] (by simp) _ hmem
    have hrange := (wd_range (bytesOf s) [] (by simp) (fun x hx => bytes_range hx) _ hmem)
    rw [bytes_len, List.length_nil] at hrange
    generalize (wd [] (bytesOf s))[i] = q at *
    have hqb : bytesOf (strOfNums q) = q := bytes_str hrange.1
    have hqs : (strOfNums q).size ≤ 3000 := by rw [str_size]; omega
    have hne : ¬ (strOfNums q).toList = ([] : List UInt8) := fun e => hgood.1 (by rw [← hqb]; exact nil_bytes.1 e)
    have hwq := words_ev (strOfNums q) (by omega)
    rw [hqb, wd_one hgood] at hwq
    have htq := asc_trim (strOfNums q) (by omega)
    rw [hqb, trim_id q (fun x hx => hgood.2 x (List.mem_of_head? hx)) (fun x hx => hgood.2 x (List.mem_of_getLast? hx))] at htq
    refine Ev.step (fun k => by simp only [cringlelaw01_AsciiTwice.l0]; rw [if_pos (by omega), if_pos (by omega), if_pos (by omega), texts_at hlt, hget, if_neg hne, next (by omega)]) ?_
    refine Ev.bind hwq ?_
    rw [htq]
    refine Ev.congr (fun k => if_pos rfl) ?_
    refine Ev.congr (fun k => if_pos rfl) ?_
    exact ih (i + 1) (by omega)
theorem AsciiTwice : Say.AsciiTwice := by
  intro a0 h0
  refine Ev.rounds (g := fun k => cringlelaw01_AsciiTwice.f k a0) ?_
  unfold cringlelaw01_AsciiTwice.f cringlelaw01_long.f
  simp only [Option.bind_some]
  refine Ev.ite (fun _ => alive2_then) (fun h => ?_)
  have hs := of_decide_eq_false (Bool.eq_false_iff.mpr h)
  refine Ev.bind (words_ev a0 (by omega)) ?_
  exact loop a0 (by omega) _ 0 (Nat.zero_add _)
end Go.Proofs.YtgbpmhkaobjnpaaDoor.Pure
