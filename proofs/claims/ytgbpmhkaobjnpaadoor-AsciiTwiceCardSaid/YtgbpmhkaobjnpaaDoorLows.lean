/- Lower letters, and words joined: what the printed functions, and the reference's, come to. No condition but those typed. -/
import Derived.Test.YtgbpmhkaobjnpaaDoorBlanks
namespace Go.Proofs.YtgbpmhkaobjnpaaDoor.Plain
open Go.RowKit Go.Proofs.YtgbpmhkaobjnpaaDoor.Q Go.Proofs.YtgbpmhkaobjnpaaDoorW.PrintWords Go.Proofs.YtgbpmhkaobjnpaaDoorW.PrintLast Go.Proofs.YtgbpmhkaobjnpaaDoorW.PrintMore
set_option linter.unusedVariables false
def lowI (x : Int) : Int := if 65 ≤ x ∧ x ≤ 90 then x + 32 else x
theorem low_all : ∀ i : Fin 256, ((ascii_lowB (UInt8.ofNat i.val)).toNat : Int) = lowI (i.val : Int) := by decide +kernel
theorem lowB_eq (x : UInt8) : ((ascii_lowB x).toNat : Int) = lowI (x.toNat : Int) := by
  have := low_all ⟨x.toNat, x.toNat_lt⟩
  simpa using this
theorem lowI_range {x : Int} (h : 0 ≤ x ∧ x < 256) : 0 ≤ lowI x ∧ lowI x < 256 := by unfold lowI; split <;> omega
theorem lowI_twice (x : Int) : lowI (lowI x) = lowI x := by
  by_cases h : 65 ≤ x ∧ x ≤ 90
  · have e : lowI x = x + 32 := if_pos h
    rw [e]
    exact if_neg (by omega)
  · have e : lowI x = x := if_neg h
    rw [e, e]
def lower (s : ByteArray) : ByteArray := strOfNums ((bytesOf s).map lowI)
theorem lower_bytes (s : ByteArray) : bytesOf (lower s) = (bytesOf s).map lowI := by
  apply bytes_str
  intro x hx
  obtain ⟨y, hy, rfl⟩ := List.mem_map.1 hx
  exact lowI_range (bytes_range hy)
theorem lower_size (s : ByteArray) : (lower s).size = s.size := by rw [← bytes_len, lower_bytes, List.length_map, bytes_len]
theorem lower_twice (s : ByteArray) : lower (lower s) = lower s := by
  apply bytes_inj
  rw [lower_bytes, lower_bytes, List.map_map]
  exact List.map_congr_left fun x _ => lowI_twice x
theorem asc_lower (s : ByteArray) (hs : s.size ≤ 9223372036854775807) : ascii_Lower.f s = some (lower s) := by
  unfold ascii_Lower.f
  rw [if_pos hs]
  congr 1
  apply bytes_inj
  rw [lower_bytes]
  unfold bytesOf
  simp only [List.map_map]
  exact List.map_congr_left fun x _ => lowB_eq x
theorem ref_lower_loop (s : ByteArray) (hs : s.size ≤ 100000) (d : Nat) : ∀ i : Nat, i + d = (bytesOf s).length → Ev (fun k => cringleref01_Lower.l0 k s (((bytesOf s).take i).map lowI) (i : Int)) (lower s) := by
  have hsz := bytes_len s
  induction d with
  | zero =>
    intro i hi
    refine Ev.step (f := fun _ => some (lower s)) (fun k => ?_) (Ev.now _)
    simp only [cringleref01_Lower.l0]
    rw [if_neg (by omega), List.take_of_length_le (by omega)]
    rfl
  | succ d ih =>
    intro i hi
    have hlt : i < (bytesOf s).length := by omega
    have hxr := bytes_range (List.getElem_mem hlt)
    have hl : (((bytesOf s).take i).map lowI).length = i := by simp; omega
    have hnext : ((bytesOf s).take (i + 1)).map lowI = ((bytesOf s).take i).map lowI ++ [lowI (bytesOf s)[i]] := by
      rw [List.take_add_one, List.getElem?_eq_getElem hlt, List.map_append]
      rfl
    have := ih (i + 1) (by omega)
    rw [hnext] at this
    refine Ev.step (fun k => ?_) this
    simp only [cringleref01_Lower.l0]
    rw [if_pos (by omega), if_pos (by omega), bytes_bt hlt, hl, next (by omega)]
    generalize (bytesOf s)[i] = x at *
    unfold lowI
    by_cases h1 : x ≥ 65
    · rw [if_pos h1]
      by_cases h2 : x ≤ 90
      · rw [if_pos h2, if_pos (by omega), if_pos (by omega), show (x + 32) % 256 = x + 32 by omega]
      · rw [if_neg h2, if_pos (by omega), if_neg (by omega)]
    · rw [if_neg h1, if_pos (by omega), if_neg (by omega)]
theorem ref_lower (s : ByteArray) (hs : s.size ≤ 100000) : Ev (fun k => cringleref01_Lower.f k s) (lower s) := ref_lower_loop s hs _ 0 (Nat.zero_add _)
theorem asc_same (a b : ByteArray) (ha : a.size ≤ 9223372036854775807) (hb : b.size ≤ 9223372036854775807) : ascii_Same.f a b = some ((lower a).toList == (lower b).toList) := by
  unfold ascii_Same.f
  rw [asc_lower a ha, asc_lower b hb]
  by_cases h : (a.size : Int) = (b.size : Int)
  · rw [if_pos h]; rfl
  · rw [if_neg h]
    congr 1
    symm
    rw [beq_eq_false_iff_ne]
    intro e
    have e2 := text_eq.1 e
    have := congrArg ByteArray.size e2
    rw [lower_size, lower_size] at this
    omega
/-- Each word has bytes, and no blank. -/
def good (q : List Int) : Prop := q ≠ [] ∧ ∀ x ∈ q, isB x = false
theorem wd_good (l : List Int) : ∀ acc, (∀ x ∈ acc, isB x = false) → ∀ q ∈ wd acc l, good q := by
  induction l with
  | nil =>
    intro acc ha q hq
    rw [wd] at hq
    split at hq
    · cases hq
    · rename_i h
      obtain rfl : q = acc := by simpa using hq
      exact ⟨h, ha⟩
  | cons x l ih =>
    intro acc ha q hq
    rw [wd] at hq
    split at hq
    · split at hq
      · exact ih [] (by simp) q hq
      · rename_i h
        rcases List.mem_cons.1 hq with rfl | hq
        · exact ⟨h, ha⟩
        · exact ih [] (by simp) q hq
    · rename_i h
      refine ih (acc ++ [x]) (fun y hy => ?_) q hq
      rcases List.mem_append.1 hy with hy | hy
      · exact ha y hy
      · obtain rfl : y = x := by simpa using hy
        simpa using h
theorem wd_range (l : List Int) : ∀ acc, (∀ x ∈ acc, 0 ≤ x ∧ x < 256) → (∀ x ∈ l, 0 ≤ x ∧ x < 256) → ∀ q ∈ wd acc l, (∀ x ∈ q, 0 ≤ x ∧ x < 256) ∧ q.length ≤ acc.length + l.length := by
  induction l with
  | nil =>
    intro acc ha hl q hq
    rw [wd] at hq
    split at hq
    · cases hq
    · obtain rfl : q = acc := by simpa using hq
      exact ⟨ha, by simp⟩
  | cons x l ih =>
    intro acc ha hl q hq
    have hl2 : ∀ y ∈ l, 0 ≤ y ∧ y < 256 := fun y hy => hl y (by simp [hy])
    rw [wd] at hq
    split at hq
    · split at hq
      · have := ih [] (by simp) hl2 q hq
        exact ⟨this.1, by have h2 := this.2; simp at h2 ⊢; omega⟩
      · rcases List.mem_cons.1 hq with rfl | hq
        · exact ⟨ha, by omega⟩
        · have := ih [] (by simp) hl2 q hq
          exact ⟨this.1, by have h2 := this.2; simp at h2 ⊢; omega⟩
    · have := ih (acc ++ [x]) (fun y hy => by
        rcases List.mem_append.1 hy with hy | hy
        · exact ha y hy
        · obtain rfl : y = x := by simpa using hy
          exact hl y (by simp)) hl2 q hq
      exact ⟨this.1, by have h2 := this.2; simp at h2 ⊢; omega⟩
theorem wd_len (l : List Int) : ∀ acc, (wd acc l).length ≤ l.length + 1 := by
  induction l with
  | nil => intro acc; rw [wd]; split <;> simp
  | cons x l ih =>
    intro acc
    rw [wd]
    have h1 := ih []
    have h2 := ih (acc ++ [x])
    split
    · split
      · rw [List.length_cons]; omega
      · rw [List.length_cons, List.length_cons]; omega
    · rw [List.length_cons]; omega
/-- Words joined by one blank. -/
def jn : List (List Int) → List Int
  | [] => []
  | q :: r => q ++ (r.map ([32] ++ ·)).flatten
theorem tails_map (r : List (List Int)) : ((r.map ([32] ++ ·)).flatten).map (fun n : Int => UInt8.ofNat n.toNat) = Lib.joinTail (⟨#[32]⟩ : ByteArray).data.toList ((strs r).map (·.data.toList)) := by
  induction r with
  | nil => rfl
  | cons q r ih =>
    rw [List.map_cons, List.flatten_cons, List.map_append, ih]
    rfl
theorem join_jn (ws : List (List Int)) : (⟨(Lib.join ((strs ws).map (·.data.toList)) (⟨#[32]⟩ : ByteArray).data.toList).toArray⟩ : ByteArray) = strOfNums (jn ws) := by
  rcases ws with _ | ⟨q, r⟩
  · rfl
  · have : Lib.join ((strs (q :: r)).map (·.data.toList)) (⟨#[32]⟩ : ByteArray).data.toList = (jn (q :: r)).map (fun n : Int => UInt8.ofNat n.toNat) := by
      rw [strs, List.map_cons, List.map_cons, Lib.join_cons, ← strs, ← tails_map, strOfNums_data, jn, List.map_append]
    rw [this]
    rfl
theorem jn_len (ws : List (List Int)) (n : Nat) (h : ∀ q ∈ ws, q.length ≤ n) : (jn ws).length ≤ ws.length * (n + 1) := by
  have key : ∀ r : List (List Int), (∀ q ∈ r, q.length ≤ n) → ((r.map ([32] ++ ·)).flatten).length ≤ r.length * (n + 1) := by
    intro r
    induction r with
    | nil => intro _; simp
    | cons q r ih =>
      intro hr
      have h1 := hr q (by simp)
      have h2 := ih (fun x hx => hr x (by simp [hx]))
      rw [List.map_cons, List.flatten_cons, List.length_append, List.length_append, List.length_singleton, List.length_cons, Nat.succ_mul]
      omega
  rcases ws with _ | ⟨q, r⟩
  · simp [jn]
  · have h1 := h q (by simp)
    have h2 := key r (fun x hx => h x (by simp [hx]))
    rw [jn, List.length_append, List.length_cons, Nat.succ_mul]
    omega
theorem strs_small (s : ByteArray) (hs : s.size ≤ 4000) : (strs (wd [] (bytesOf s))).length ≤ 4001 ∧ (∀ x ∈ strs (wd [] (bytesOf s)), x.size ≤ 4000) ∧ (jn (wd [] (bytesOf s))).length ≤ 100000000 := by
  have hl := wd_len (bytesOf s) []
  rw [bytes_len] at hl
  have hq : ∀ q ∈ wd [] (bytesOf s), q.length ≤ 4000 := fun q hq => by
    have := (wd_range (bytesOf s) [] (by simp) (fun x hx => bytes_range hx) q hq).2
    rw [bytes_len, List.length_nil] at this
    omega
  refine ⟨by unfold strs; rw [List.length_map]; omega, fun x hx => ?_, ?_⟩
  · obtain ⟨q, h, rfl⟩ := List.mem_map.1 hx
    rw [str_size]
    exact hq q h
  · have h1 := jn_len _ 4000 hq
    have h2 : (wd [] (bytesOf s)).length * 4001 ≤ 4001 * 4001 := Nat.mul_le_mul_right _ (by omega)
    omega
theorem squeeze_ev (s : ByteArray) (hs : s.size ≤ 4000) : Ev (fun k => ascii_Squeeze.f k s) (strOfNums (jn (wd [] (bytesOf s)))) := by
  obtain ⟨h1, h2, h3⟩ := strs_small s hs
  have hj := join_jn (wd [] (bytesOf s))
  have hlen : (Lib.join ((strs (wd [] (bytesOf s))).map (·.data.toList)) (⟨#[32]⟩ : ByteArray).data.toList).length = (jn (wd [] (bytesOf s))).length := by
    have := congrArg ByteArray.size hj
    rw [str_size] at this
    rw [← this]
    simp [ByteArray.size]
  unfold ascii_Squeeze.f
  refine Ev.bind (words_ev s (by omega)) ?_
  rw [join_eq _ _ (by omega) (by omega), hj]
  exact Ev.now _
theorem ref_squeeze_ev (s : ByteArray) (hs : s.size ≤ 4000) : Ev (fun k => cringleref01_Squeeze.f k s) (strOfNums (jn (wd [] (bytesOf s)))) := by
  obtain ⟨h1, h2, h3⟩ := strs_small s hs
  unfold cringleref01_Squeeze.f
  refine Ev.bind (ref_words s (by omega)) ?_
  refine Ev.bind (ref_join_ev _ _ (by decide) (fun x hx => by have := h2 x hx; omega) (by omega)) ?_
  rw [join_jn]
  exact Ev.now _
end Go.Proofs.YtgbpmhkaobjnpaaDoor.Plain
