/- What a request's text is read as; the law of what is read again, walked. No condition but those typed. -/
import Derived.Test.YtljlkpfiebcoeaaGreatDoorHw5
namespace Go.Proofs.YtljlkpfiebcoeaaGreatDoor.H
open Go.RowKit Go.Sort Go.Shelf Go.Proofs.YtljlkpfiebcoeaaGreatDoor.Q Go.Proofs.YtljlkpfiebcoeaaGreatDoorW.PrintWords Go.Proofs.YtljlkpfiebcoeaaGreatDoorW.PrintLast Go.Proofs.YtljlkpfiebcoeaaGreatDoorW.PrintMore
attribute [local go_sem] max2_int min2_int max_two min_two max_three min_three max_four min_four   -- for this text's walks alone
set_option linter.unusedVariables false
set_option linter.unusedSimpArgs false
set_option maxRecDepth 100000
/-! ### A response's lines: plain -/
def blk (ls : List (List UInt8)) : List UInt8 := ls.flatMap fun x => x ++ [13, 10]
def goodL (x : List UInt8) : Prop := x ≠ [] ∧ (13 : UInt8) ∉ x
/-- What the statement's loop tells of the bytes from i on: how many lines, and where they end. -/
def scan : List UInt8 → Int → Int → Int × Int
  | a :: b :: r, i, n => if a = 13 ∧ b = 10 then (if r.take 2 = [13, 10] then (n + 1, i + 4) else scan (b :: r) (i + 1) (n + 1)) else scan (b :: r) (i + 1) n
  | _, _, n => (n, -1)
theorem scan_short {l : List UInt8} (h : l.length < 2) (i n : Int) : scan l i n = (n, -1) := by
  match l, h with
  | [], _ => rfl
  | [_], _ => rfl
theorem scan_step {a b : UInt8} {r : List UInt8} {i n : Int} (h : ¬ (a = 13 ∧ b = 10)) : scan (a :: b :: r) i n = scan (b :: r) (i + 1) n := by rw [scan, if_neg h]
theorem scan_line {r : List UInt8} {i n : Int} (h : r.take 2 ≠ [13, 10]) : scan (13 :: 10 :: r) i n = scan (10 :: r) (i + 1) (n + 1) := by rw [scan, if_pos ⟨rfl, rfl⟩, if_neg h]
theorem scan_end {r : List UInt8} {i n : Int} (h : r.take 2 = [13, 10]) : scan (13 :: 10 :: r) i n = (n + 1, i + 4) := by rw [scan, if_pos ⟨rfl, rfl⟩, if_pos h]
theorem scan_skip : ∀ (x y : List UInt8) (i n : Int), (13 : UInt8) ∉ x → scan (x ++ y) i n = scan y (i + x.length) n
  | [], y, i, n, _ => by rw [List.nil_append]; congr 1; simp
  | a :: x, y, i, n, h => by
    have ha : a ≠ 13 := fun e => h (by rw [e]; exact List.mem_cons_self)
    have hx : (13 : UInt8) ∉ x := fun e => h (List.mem_cons_of_mem _ e)
    have ih := scan_skip x y (i + 1) n hx
    have e : i + ((a :: x).length : Int) = i + 1 + x.length := by rw [List.length_cons]; omega
    rw [e, ← ih, List.cons_append]
    cases hr : x ++ y with
    | nil => rfl
    | cons b r => rw [scan_step (fun k => ha k.1)]
theorem scan_blk (body : List UInt8) : ∀ (ls : List (List UInt8)) (i n : Int), ls ≠ [] → (∀ x ∈ ls, goodL x) → scan (blk ls ++ 13 :: 10 :: body) i n = (n + ls.length, i + (blk ls).length + 2)
  | [], _, _, h, _ => absurd rfl h
  | [x], i, n, _, h => by
    have hx := h x (by simp)
    show scan ((x ++ [13, 10] ++ []) ++ 13 :: 10 :: body) i n = (n + 1, _)
    rw [List.append_nil, List.append_assoc, scan_skip x _ _ _ hx.2]
    show scan (13 :: 10 :: 13 :: 10 :: body) _ _ = _
    rw [scan_end rfl]
    have : (blk [x]).length = x.length + 2 := by simp [blk]
    rw [this]
    congr 1
    omega
  | x :: y :: r, i, n, _, h => by
    have hx := h x (by simp)
    have hy := h y (by simp)
    have ih := scan_blk body (y :: r) (i + x.length + 2) (n + 1) (by simp) (fun z hz => h z (List.mem_cons_of_mem _ hz))
    have e1 : blk (x :: y :: r) = x ++ 13 :: 10 :: blk (y :: r) := by simp [blk]
    obtain ⟨c, t, hc⟩ : ∃ c t, blk (y :: r) = c :: t ∧ c ≠ 13 := by
      obtain ⟨h1, h2⟩ := hy
      match y, h1, h2 with
      | c :: u, _, h2 => exact ⟨c, u ++ [13, 10] ++ blk r, by simp [blk], fun e => h2 (by rw [e]; exact List.mem_cons_self)⟩
    rw [e1, List.append_assoc, scan_skip x _ _ _ hx.2]
    show scan (13 :: 10 :: (blk (y :: r) ++ 13 :: 10 :: body)) _ _ = _
    rw [scan_line (by rw [hc.1]; intro e; simp at e; exact hc.2 e.1)]
    have e2 := scan_skip [10] (blk (y :: r) ++ 13 :: 10 :: body) (i + x.length + 1) (n + 1) (by decide)
    rw [List.singleton_append] at e2
    rw [e2, show i + (x.length : Int) + 1 + (([10] : List UInt8).length : Int) = i + x.length + 2 from by simp; omega, ih]
    congr 1
    · simp only [List.length_cons]; omega
    · rw [List.length_append, List.length_cons, List.length_cons]; omega
theorem clean_all : ∀ c : Fin 256, cleanB (UInt8.ofNat c.val) ≠ 13 := by decide +kernel
theorem clean_no (s : ByteArray) : (13 : UInt8) ∉ (cleanS s).data.toList := by
  show (13 : UInt8) ∉ ((s.data.toList.map cleanB).toArray).toList
  intro h
  rw [List.toList_toArray] at h
  obtain ⟨c, -, hc⟩ := List.mem_map.1 h
  have := clean_all ⟨c.toNat, c.toNat_lt⟩
  simp only [UInt8.ofNat_toNat] at this
  exact this hc
theorem catB_data : ∀ ss : List ByteArray, (catB ss).data.toList = ss.flatMap fun s => s.data.toList
  | [] => rfl
  | s :: r => by
    show (s ++ catB r).data.toList = _
    rw [data_app, catB_data r]
    rfl
theorem lnB_data (t : ByteArray) (ss : List ByteArray) : (lnB t ss).data.toList = t.data.toList ++ ((ss.flatMap fun s => s.data.toList) ++ [13, 10]) := by
  unfold lnB
  rw [data_app, data_app, catB_data, List.append_assoc]
/-- The response's lines. -/
def line1 (pd rs : ByteArray) : List UInt8 := [72, 84, 84, 80, 47, 49, 46, 49, 32] ++ (pd.data.toList ++ ([32] ++ rs.data.toList))
def line2 (typ : ByteArray) : List UInt8 := [67, 111, 110, 116, 101, 110, 116, 45, 84, 121, 112, 101, 58, 32] ++ (cleanS typ).data.toList
def line3 (typ : ByteArray) : List UInt8 := [88] ++ ([58, 32] ++ (cleanS typ).data.toList)
def line4 (tx : ByteArray) : List UInt8 := [67, 111, 110, 116, 101, 110, 116, 45, 76, 101, 110, 103, 116, 104, 58, 32] ++ tx.data.toList
def linesW (pd rs tx typ : ByteArray) : List (List UInt8) := if typ.toList = [] then [line1 pd rs, line3 typ, line4 tx] else [line1 pd rs, line2 typ, line3 typ, line4 tx]
def xF (typ : ByteArray) : S67 := ⟨⟨#[88]⟩, typ⟩
theorem wr_lines (pd rs tx typ body : ByteArray) : (wrB pd rs tx typ [xF typ] body).data.toList = blk (linesW pd rs tx typ) ++ 13 :: 10 :: body.data.toList := by
  unfold wrB
  rw [data_app, lnB_data, lnB_data]
  show (lnB (hdB pd rs typ) [(xF typ).f0, ⟨#[58, 32]⟩, cleanS (xF typ).f1]).data.toList ++ _ ++ _ ++ _ = _
  rw [lnB_data]
  unfold hdB linesW
  by_cases ht : typ.toList = []
  · rw [if_pos ht, if_pos ht, lnB_data]
    simp [blk, line1, line3, line4, xF, List.append_assoc]
  · rw [if_neg ht, if_neg ht, lnB_data, lnB_data]
    simp [blk, line1, line2, line3, line4, xF, List.append_assoc]
theorem lines_good {pd rs tx : ByteArray} (hp : (13 : UInt8) ∉ pd.data.toList) (hr : (13 : UInt8) ∉ rs.data.toList) (hx : (13 : UInt8) ∉ tx.data.toList) (typ : ByteArray) : ∀ x ∈ linesW pd rs tx typ, goodL x := by
  have g1 : goodL (line1 pd rs) := ⟨by simp [line1], by simp [line1, hp, hr]⟩
  have g2 : goodL (line2 typ) := ⟨by simp [line2], fun k => (List.mem_append.1 k).elim (by decide) (clean_no typ)⟩
  have g3 : goodL (line3 typ) := ⟨by simp [line3], fun k => (List.mem_append.1 k).elim (by decide) (fun k => (List.mem_append.1 k).elim (by decide) (clean_no typ))⟩
  have g4 : goodL (line4 tx) := ⟨by simp [line4], by simp [line4, hx]⟩
  intro x h
  unfold linesW at h
  split at h
  · simp at h
    rcases h with rfl | rfl | rfl <;> assumption
  · simp at h
    rcases h with rfl | rfl | rfl | rfl <;> assumption
/-- What the statement asks of a response. -/
theorem tells_plain {pd rs tx : ByteArray} (hp : (13 : UInt8) ∉ pd.data.toList) (hr : (13 : UInt8) ∉ rs.data.toList) (hx : (13 : UInt8) ∉ tx.data.toList) (typ body : ByteArray) :
    ∃ X : List UInt8, (wrB pd rs tx typ [xF typ] body).data.toList = X ++ (line4 tx ++ [13, 10, 13, 10]) ++ body.data.toList ∧ scan (wrB pd rs tx typ [xF typ] body).data.toList 0 0 = (if typ.toList = [] then 3 else 4, ((X.length + ((line4 tx).length + 4) : Nat) : Int)) := by
  have h := wr_lines pd rs tx typ body
  have hg := lines_good hp hr hx typ
  rw [h, scan_blk _ _ _ _ (by unfold linesW; split <;> simp) hg]
  unfold linesW
  by_cases ht : typ.toList = []
  · rw [if_pos ht, if_pos ht]
    refine ⟨blk [line1 pd rs, line3 typ], by simp [blk], ?_⟩
    simp [blk]
    omega
  · rw [if_neg ht, if_neg ht]
    refine ⟨blk [line1 pd rs, line2 typ, line3 typ], by simp [blk], ?_⟩
    simp [blk]
    omega
/-! ### What a request's text is read as: plain, over lists -/
theorem no_occ {sub : List UInt8} {c : UInt8} {t : List UInt8} (hs : sub = c :: t) {x y : List UInt8} (hx : c ∉ x) {j : Nat} (hj : j < x.length) : Lib.occAt (x ++ y) sub j = false := by
  cases h : Lib.occAt (x ++ y) sub j with
  | false => rfl
  | true =>
    unfold Lib.occAt at h
    rw [List.drop_append_of_le_length (Nat.le_of_lt hj), List.drop_eq_getElem_cons hj, hs, List.cons_append] at h
    have h1 := List.isPrefixOf_iff_prefix.1 h
    rw [List.cons_prefix_cons] at h1
    exact absurd (by rw [h1.1]; exact List.getElem_mem hj) hx
theorem idx_skip {sub : List UInt8} {c : UInt8} {t : List UInt8} (hs : sub = c :: t) {x y : List UInt8} (hx : c ∉ x) {i : Nat} (h : Lib.index y sub = i) : Lib.index (x ++ y) sub = ((x.length + i : Nat) : Int) := by
  induction x with
  | nil => rw [List.nil_append, h]; simp
  | cons a x ih =>
    have ha : a ≠ c := fun e => hx (by rw [e]; exact List.mem_cons_self)
    have ih := ih (fun k => hx (List.mem_cons_of_mem _ k))
    have hp : sub.isPrefixOf (a :: (x ++ y)) = false := by
      rw [hs]
      simp [List.isPrefixOf, Ne.symm ha]
    rw [List.cons_append]
    unfold Lib.index
    rw [hp, ih, if_neg (by simp), if_neg (by rw [beq_iff_eq]; omega), List.length_cons]
    omega
theorem idx_here {sub y : List UInt8} (h : sub <+: y) : Lib.index y sub = (0 : Nat) := by
  cases y with
  | nil =>
    obtain rfl : sub = [] := List.prefix_nil.1 h
    rfl
  | cons a y =>
    unfold Lib.index
    rw [if_pos (List.isPrefixOf_iff_prefix.2 h)]
    rfl
theorem cut_hit {sub : List UInt8} {x r : List UInt8} (h : Lib.index (x ++ sub ++ r) sub = (x.length : Nat)) : Lib.cut (x ++ sub ++ r) sub = (x, r, true) := by
  unfold Lib.cut
  rw [h, if_pos (by omega), Int.toNat_natCast, List.append_assoc, List.take_append_of_le_length (Nat.le_refl _), List.take_length, ← List.append_assoc, List.drop_append_of_le_length (by simp), ← List.length_append, List.drop_length, List.nil_append]
/-- A line is cut off. -/
theorem cut_line {x : List UInt8} (hx : (13 : UInt8) ∉ x) (r : List UInt8) : Lib.cut (x ++ [13, 10] ++ r) [13, 10] = (x, r, true) :=
  cut_hit (by rw [List.append_assoc]; exact (idx_skip rfl hx (idx_here (List.prefix_append _ _))).trans (by simp))
theorem cut_byte1 {x : List UInt8} {c : UInt8} (hx : c ∉ x) (r : List UInt8) : Lib.cut (x ++ [c] ++ r) [c] = (x, r, true) :=
  cut_hit (by rw [List.append_assoc]; exact (idx_skip rfl hx (idx_here (List.prefix_append _ _))).trans (by simp))
theorem idx_not {x : List UInt8} {c : UInt8} (hx : c ∉ x) : Lib.index x [c] = -1 := by
  refine Lib.index_none fun j hj => ?_
  rcases Nat.lt_or_ge j x.length with h | h
  · have := no_occ (sub := [c]) rfl (y := []) hx h
    rwa [List.append_nil] at this
  · unfold Lib.occAt
    rw [List.drop_of_length_le h]
    rfl
theorem cut_none {x : List UInt8} {c : UInt8} (hx : c ∉ x) : Lib.cut x [c] = (x, [], false) := by
  unfold Lib.cut
  rw [idx_not hx]
  rfl
theorem idx_four : ∀ (ls : List (List UInt8)) (body : List UInt8), ls ≠ [] → (∀ x ∈ ls, goodL x) → ∃ hd : List UInt8, blk ls = hd ++ [13, 10] ∧ Lib.index (hd ++ [13, 10, 13, 10] ++ body) [13, 10, 13, 10] = (hd.length : Nat)
  | [], _, h, _ => absurd rfl h
  | [x], body, _, h => ⟨x, by simp [blk], by
    rw [List.append_assoc]
    exact (idx_skip rfl (h x (by simp)).2 (idx_here (List.prefix_append _ _))).trans (by simp)⟩
  | x :: y :: r, body, _, h => by
    obtain ⟨hd, e1, e2⟩ := idx_four (y :: r) body (by simp) (fun z hz => h z (List.mem_cons_of_mem _ hz))
    refine ⟨x ++ [13, 10] ++ hd, by rw [show blk (x :: y :: r) = (x ++ [13, 10]) ++ blk (y :: r) from rfl, e1, List.append_assoc (x ++ [13, 10])], ?_⟩
    obtain ⟨c, t, hc, hcn⟩ : ∃ c t, hd ++ [13, 10, 13, 10] ++ body = c :: t ∧ c ≠ 13 := by
      have hy := h y (by simp)
      obtain ⟨h1, h2⟩ := hy
      have e3 : hd ++ [13, 10, 13, 10] ++ body = y ++ ([13, 10] ++ (blk r ++ ([13, 10] ++ body))) := by
        have : hd ++ [13, 10, 13, 10] ++ body = (hd ++ [13, 10]) ++ ([13, 10] ++ body) := by simp
        rw [this, ← e1]
        simp [blk]
      match y, h1, h2, e3 with
      | c :: u, _, h2, e3 => exact ⟨c, _, e3, fun e => h2 (by rw [e]; exact List.mem_cons_self)⟩
    have hz : Lib.index (13 :: 10 :: (hd ++ [13, 10, 13, 10] ++ body)) [13, 10, 13, 10] = ((2 + hd.length : Nat) : Int) := by
      have h10 := idx_skip (sub := [13, 10, 13, 10]) rfl (x := [10]) (by decide) e2
      rw [List.singleton_append] at h10
      rw [Lib.index]
      rw [if_neg (by rw [hc]; simp [List.isPrefixOf]; exact fun k => absurd k.symm hcn), h10, if_neg (by rw [beq_iff_eq]; omega)]
      simp
      omega
    have := idx_skip (sub := [13, 10, 13, 10]) rfl (h x (by simp)).2 hz
    rw [show x ++ [13, 10] ++ hd ++ [13, 10, 13, 10] ++ body = x ++ 13 :: 10 :: (hd ++ [13, 10, 13, 10] ++ body) from by simp, this]
    simp
    omega
/-- The head is cut off. -/
theorem cut_four {ls : List (List UInt8)} (body : List UInt8) (h0 : ls ≠ []) (h : ∀ x ∈ ls, goodL x) : ∃ hd : List UInt8, blk ls = hd ++ [13, 10] ∧ Lib.cut (blk ls ++ 13 :: 10 :: body) [13, 10, 13, 10] = (hd, body, true) := by
  obtain ⟨hd, e1, e2⟩ := idx_four ls body h0 h
  refine ⟨hd, e1, ?_⟩
  rw [e1, show hd ++ [13, 10] ++ 13 :: 10 :: body = hd ++ [13, 10, 13, 10] ++ body from by simp]
  exact cut_hit e2
/-! how long a query's text is -/
def wtB (c : UInt8) : Nat := if c.toNat < 128 then 3 else 9
def wtL (l : List UInt8) : Nat := (l.map wtB).sum
theorem wt_app (a b : List UInt8) : wtL (a ++ b) = wtL a + wtL b := by simp [wtL]
theorem wt_cons (c : UInt8) (b : List UInt8) : wtL (c :: b) = wtB c + wtL b := rfl
theorem wt_ge (c : UInt8) : 3 ≤ wtB c := by unfold wtB; split <;> omega
theorem wt_le (c : UInt8) : wtB c ≤ 9 := by unfold wtB; split <;> omega
theorem wt_len : ∀ l : List UInt8, 3 * l.length ≤ wtL l
  | [] => Nat.le_refl _
  | c :: l => by
    have := wt_len l
    have := wt_ge c
    rw [wt_cons, List.length_cons]
    omega
theorem mark_app (f a b : List UInt8) : Pc.mark f (a ++ b) = Pc.mark f a ++ Pc.mark f b := by simp [Pc.mark]
theorem mend_wt (f : List UInt8) : ∀ l : List UInt8, (Pc.mark f (U8.mend l)).length ≤ wtL l := by
  refine U8.items_ind ?_ ?_
  · simp [U8.mend, U8.items_nil, Pc.mark, wtL]
  · intro l hl ih
    rw [U8.mend_cons hl, mark_app, List.length_append]
    have e : wtL l = wtL (l.take (U8.nxt l).2.1) + wtL (l.drop (U8.nxt l).2.1) := by rw [← wt_app, List.take_append_drop]
    rw [e]
    refine Nat.add_le_add ?_ ih
    cases hb : (U8.nxt l).2.2 with
    | true =>
      rw [(U8.nxt_ok hl hb).2]
      exact Nat.le_trans (Pc.mark_len f _) (wt_len _)
    | false =>
      rw [U8.nxt_bad hb]
      have h9 : (Pc.mark f (U8.encB 65533)).length ≤ 9 := Nat.le_trans (Pc.mark_len f _) (by decide)
      refine Nat.le_trans h9 ?_
      have hw := (U8.nxt_width hl).1
      match l, hl, hb, hw with
      | c :: r, _, hb, hw =>
        have hc : ¬ c.toNat < 128 := fun h => by
          have h1 : U8.nxt (c :: r) = (c.toNat, 1, true) := by
            unfold U8.nxt
            exact U8.spec_one _ _ _ _ _ h
          rw [h1] at hb
          cases hb
        obtain ⟨k, hk⟩ : ∃ k, (U8.nxt (c :: r)).2.1 = k + 1 := ⟨(U8.nxt (c :: r)).2.1 - 1, by omega⟩
        rw [hk, List.take_succ_cons, wt_cons]
        unfold wtB
        rw [if_neg hc]
        omega
theorem un_wt : ∀ (n : Nat) (l : List UInt8), l.length ≤ n → (∀ c ∈ l, c.toNat < 128) → wtL (Pc.un l) ≤ 3 * l.length := by
  intro n
  induction n with
  | zero => intro l h _; obtain rfl : l = [] := List.eq_nil_of_length_eq_zero (by omega); simp [Pc.un, wtL]
  | succ n ih =>
    intro l h hc
    have one : ∀ (c : UInt8) (r : List UInt8), l = c :: r → Pc.un l = c :: Pc.un r → wtL (Pc.un l) ≤ 3 * l.length := fun c r e e2 => by
      have h1 := ih r (by rw [e, List.length_cons] at h; omega) (fun x hx => hc x (by rw [e]; exact List.mem_cons_of_mem _ hx))
      have h2 := hc c (by rw [e]; exact List.mem_cons_self)
      rw [e2, wt_cons, e, List.length_cons]
      have : wtB c = 3 := if_pos h2
      omega
    rcases l with _ | ⟨c, _ | ⟨a, _ | ⟨b, r⟩⟩⟩
    · simp [Pc.un, wtL]
    · exact one c [] rfl (Pc.un_short c [] (by decide))
    · exact one c [a] rfl (Pc.un_short c [a] (by simp))
    · rw [Pc.un]
      split
      · have h1 := ih r (by simp only [List.length_cons] at h; omega) (fun x hx => hc x (by simp [hx]))
        rw [wt_cons]
        have := wt_le (UInt8.ofNat (Rf.hexv a.toNat * 16 + Rf.hexv b.toNat))
        simp only [List.length_cons]
        omega
      · rename_i h0
        have h1 := ih (a :: b :: r) (by simp only [List.length_cons] at h ⊢; omega) (fun x hx => hc x (List.mem_cons_of_mem _ hx))
        rw [wt_cons]
        have : wtB c = 3 := if_pos (hc c (by simp))
        simp only [List.length_cons] at h1 ⊢
        omega
theorem part_read {l : List UInt8} (h : ∀ c ∈ l, c.toNat < 128) : (Pc.part (Pc.read l)).length ≤ 3 * l.length := by
  unfold Pc.part Pc.read
  rw [Pc.sub_len]
  refine Nat.le_trans (mend_wt _ _) ?_
  have h1 := un_wt _ (Pc.sub 43 32 l) (Nat.le_refl _) (fun c hc => by
    unfold Pc.sub at hc
    obtain ⟨x, hx, rfl⟩ := List.mem_map.1 hc
    split
    · decide
    · exact h x hx)
  rw [Pc.sub_len] at h1
  exact h1
theorem sp_sum (c : UInt8) : ∀ (l acc : List UInt8), ((Pc.sp c acc l).map fun x => x.length + 1).sum = acc.length + l.length + 1
  | [], acc => by simp [Pc.sp]
  | x :: l, acc => by
    unfold Pc.sp
    split
    · rw [List.map_cons, List.sum_cons, sp_sum c l []]
      simp only [List.length_cons, List.length_nil]
      omega
    · rw [sp_sum c l _]
      simp only [List.length_append, List.length_cons, List.length_nil]
      omega
theorem sp_bytes (c : UInt8) : ∀ (l acc x : List UInt8), x ∈ Pc.sp c acc l → ∀ b ∈ x, b ∈ acc ∨ b ∈ l
  | [], acc, x, h, b, hb => by
    rw [Pc.sp, List.mem_singleton] at h
    subst h
    exact .inl hb
  | y :: l, acc, x, h, b, hb => by
    rw [Pc.sp] at h
    split at h
    · rcases List.mem_cons.1 h with rfl | h
      · exact .inl hb
      · rcases sp_bytes c l [] x h b hb with k | k
        · cases k
        · exact .inr (List.mem_cons_of_mem _ k)
    · rcases sp_bytes c l _ x h b hb with k | k
      · rcases List.mem_append.1 k with k | k
        · exact .inl k
        · rw [List.mem_singleton.1 k]; exact .inr List.mem_cons_self
      · exact .inr (List.mem_cons_of_mem _ k)
theorem cut_61 (x : List UInt8) : (∃ a b, x = a ++ 61 :: b ∧ Lib.cut x [61] = (a, b, true)) ∨ Lib.cut x [61] = (x, [], false) := by
  unfold Lib.cut
  split
  · rename_i h0
    rcases Lib.index_spec x [61] with ⟨h1, _⟩ | ⟨i, h1, h2, h3, h4⟩
    · omega
    · rw [h1, Int.toNat_natCast]
      have hi : i < x.length := by
        have := Lib.index_room x [61] h0
        rw [h1] at this
        simp at this
        omega
      have e : x.drop i = 61 :: x.drop (i + 1) := by
        unfold Lib.occAt at h3
        rw [List.drop_eq_getElem_cons hi] at h3 ⊢
        have := List.isPrefixOf_iff_prefix.1 h3
        rw [List.cons_prefix_cons] at this
        rw [this.1]
      exact .inl ⟨x.take i, x.drop (i + 1), by rw [← e, List.take_append_drop], rfl⟩
  · exact .inr rfl
theorem pair_len {x : List UInt8} (h : ∀ c ∈ x, c.toNat < 128) : (Pc.part (Pc.pair x).1 ++ 61 :: Pc.part (Pc.pair x).2).length ≤ 3 * x.length + 1 := by
  unfold Pc.pair
  rcases cut_61 x with ⟨a, b, e, e2⟩ | e2
  · rw [e2]
    simp only []
    have h1 := part_read (l := a) (fun c hc => h c (by rw [e]; simp [hc]))
    have h2 := part_read (l := b) (fun c hc => h c (by rw [e]; simp [hc]))
    rw [e]
    simp only [List.length_append, List.length_cons]
    omega
  · rw [e2]
    simp only []
    have h1 := part_read h
    rw [Pc.read_nil, show Pc.part [] = [] from rfl]
    simp only [List.length_append, List.length_cons, List.length_nil]
    omega
theorem sum_pairs : ∀ L : List (List UInt8), (∀ x ∈ L, ∀ c ∈ x, c.toNat < 128) → (((Pc.pairs L).map fun p => Pc.part p.1 ++ 61 :: Pc.part p.2).map fun x => x.length + 1).sum ≤ 3 * (L.map fun x => x.length + 1).sum
  | [], _ => by simp [Pc.pairs]
  | x :: L, h => by
    have ih := sum_pairs L (fun y hy => h y (List.mem_cons_of_mem _ hy))
    rw [Plain.pairs_cons]
    split
    · rw [List.map_cons, List.sum_cons]
      omega
    · have := pair_len (h x List.mem_cons_self)
      simp only [List.map_cons, List.sum_cons] at ih ⊢
      omega
/-- A query, written anew, is at most three times as long, and a little. -/
theorem form_len {l : List UInt8} (h : ∀ c ∈ l, c.toNat < 128) : (Pc.form (Pc.parse l)).length ≤ 3 * l.length + 3 := by
  unfold Pc.form Pc.parse
  refine Nat.le_trans (Pc.join_len 38 _) ?_
  refine Nat.le_trans (sum_pairs _ (fun x hx c hc => ?_)) ?_
  · rcases sp_bytes 38 l [] x hx c hc with k | k
    · cases k
    · exact h c k
  · rw [sp_sum]
    simp
    omega
theorem pairs_len (L : List (List UInt8)) : (Pc.pairs L).length ≤ L.length := by
  unfold Pc.pairs
  rw [List.length_map]
  exact List.length_filter_le _ _
theorem parse_texts (l : List UInt8) : ∀ p ∈ Pc.parse l, U8.text p.1 = true ∧ U8.text p.2 = true := by
  intro p hp
  unfold Pc.parse Pc.pairs at hp
  obtain ⟨x, -, rfl⟩ := List.mem_map.1 hp
  exact ⟨Pc.read_text _, Pc.read_text _⟩
/-- A query, written anew, is read as it was. -/
theorem told_form {l : List UInt8} (h : (Plain.told3 l).2 = 0) : Plain.told3 (Pc.form (Plain.told3 l).1) = ((Plain.told3 l).1, 0) := by
  unfold Plain.told3 at h ⊢
  split at h
  · cases h
  · rename_i h0
    rw [if_neg h0]
    have hc : ((Pc.form (Pc.parse l)).count 38 : Nat) ≤ 512 := by
      have h1 : (Plain.texts (Pc.parse l)).length ≤ l.count 38 + 1 := by
        unfold Plain.texts
        rw [List.length_map]
        unfold Pc.parse
        refine Nat.le_trans (pairs_len _) ?_
        rw [Pc.sp_len]
        exact Nat.le_refl _
      have h2 : (Pc.form (Pc.parse l)).count 38 = (Plain.texts (Pc.parse l)).length - 1 := Pc.count_join (Plain.texts (Pc.parse l)) (fun x hxm => by
        obtain ⟨p, _, rfl⟩ := Plain.texts_len _ x hxm
        have h1 := (Pc.part_has p.1).1
        have h2 := (Pc.part_has p.2).1
        simp [h1, h2])
      omega
    show (if (Pc.form (Pc.parse l)).count 38 > 512 then ([], 5) else (Pc.parse (Pc.form (Pc.parse l)), 0)) = (Pc.parse l, 0)
    rw [if_neg (by omega), Pc.parse_form _ (parse_texts l)]
/-! ### What a request tells of itself: plain -/
theorem D_of (l : List UInt8) : (⟨l.toArray⟩ : ByteArray).data.toList = l := rfl
theorem of_D (s : ByteArray) : (⟨s.data.toList.toArray⟩ : ByteArray) = s := rfl
theorem byte_all {p : UInt8 → Prop} (h : ∀ n : Fin 256, p (UInt8.ofNat n.val)) (c : UInt8) : p c := by
  have := h ⟨c.toNat, c.toNat_lt⟩
  simpa using this
theorem tok_low_all : ∀ n : Fin 256, tokB (UInt8.ofNat n.val) = true → tokB (ascii_lowB (UInt8.ofNat n.val)) = true := by decide +kernel
theorem tok_no_all : ∀ n : Fin 256, tokB (UInt8.ofNat n.val) = true → UInt8.ofNat n.val ≠ 13 ∧ UInt8.ofNat n.val ≠ 58 := by decide +kernel
theorem low_low_all : ∀ n : Fin 256, ascii_lowB (ascii_lowB (UInt8.ofNat n.val)) = ascii_lowB (UInt8.ofNat n.val) := by decide +kernel
theorem may_no_all : ∀ n : Fin 256, mayB (UInt8.ofNat n.val) = true → UInt8.ofNat n.val ≠ 13 := by decide +kernel
theorem great_no_all : ∀ n : Fin 256, greatB (UInt8.ofNat n.val) = true → UInt8.ofNat n.val ≠ 13 ∧ UInt8.ofNat n.val ≠ 32 := by decide +kernel
theorem shown_no_all : ∀ n : Fin 256, shownB (UInt8.ofNat n.val) = true → UInt8.ofNat n.val ≠ 13 ∧ UInt8.ofNat n.val ≠ 32 ∧ (UInt8.ofNat n.val).toNat < 128 := by decide +kernel
theorem plain_shown_all : ∀ n : Fin 256, Pc.plain (UInt8.ofNat n.val).toNat = true → shownB (UInt8.ofNat n.val) = true := by decide +kernel
theorem digit_may_all : ∀ n : Fin 256, 48 ≤ n.val → n.val ≤ 57 → mayB (UInt8.ofNat n.val) = true ∧ UInt8.ofNat n.val ∉ ([9, 10, 12, 13, 32] : List UInt8) := by decide +kernel
theorem tok_low {c : UInt8} : tokB c = true → tokB (ascii_lowB c) = true := byte_all (p := fun c => tokB c = true → tokB (ascii_lowB c) = true) tok_low_all c
theorem tok_no {c : UInt8} : tokB c = true → c ≠ 13 ∧ c ≠ 58 := byte_all (p := fun c => tokB c = true → c ≠ 13 ∧ c ≠ 58) tok_no_all c
theorem low_low (c : UInt8) : ascii_lowB (ascii_lowB c) = ascii_lowB c := byte_all (p := fun c => ascii_lowB (ascii_lowB c) = ascii_lowB c) low_low_all c
theorem may_no {c : UInt8} : mayB c = true → c ≠ 13 := byte_all (p := fun c => mayB c = true → c ≠ 13) may_no_all c
theorem great_no {c : UInt8} : greatB c = true → c ≠ 13 ∧ c ≠ 32 := byte_all (p := fun c => greatB c = true → c ≠ 13 ∧ c ≠ 32) great_no_all c
theorem shown_no {c : UInt8} : shownB c = true → c ≠ 13 ∧ c ≠ 32 ∧ c.toNat < 128 := byte_all (p := fun c => shownB c = true → c ≠ 13 ∧ c ≠ 32 ∧ c.toNat < 128) shown_no_all c
theorem plain_shown {c : UInt8} : Pc.plain c.toNat = true → shownB c = true := byte_all (p := fun c => Pc.plain c.toNat = true → shownB c = true) plain_shown_all c
theorem allB_iff {p : UInt8 → Bool} {s : ByteArray} : allB p s = true ↔ ∀ c ∈ s.data.toList, p c = true := by unfold allB; exact List.all_eq_true
theorem lowB_data (s : ByteArray) : (lowB s).data.toList = s.data.toList.map ascii_lowB := rfl
theorem lowB_twice (s : ByteArray) : lowB (lowB s) = lowB s := by
  apply ba_ext
  rw [lowB_data, lowB_data, List.map_map]
  exact List.map_congr_left fun c _ => low_low c
theorem lowB_size (s : ByteArray) : (lowB s).size = s.size := by rw [← data_len, lowB_data, List.length_map, data_len]
theorem emp_iff (s : ByteArray) : s.toList.isEmpty = true ↔ s.size = 0 := by rw [emp_eq]; simp
theorem isTok_iff {s : ByteArray} : isTokB s = true ↔ s.size ≠ 0 ∧ s.size ≤ 256 ∧ ∀ c ∈ s.data.toList, tokB c = true := by
  unfold isTokB
  rw [emp_eq]
  simp [allB_iff, and_assoc]
theorem isTok_low {s : ByteArray} (h : isTokB s = true) : isTokB (lowB s) = true := by
  rw [isTok_iff] at h ⊢
  rw [lowB_size]
  refine ⟨h.1, h.2.1, fun c hc => ?_⟩
  rw [lowB_data] at hc
  obtain ⟨x, hx, rfl⟩ := List.mem_map.1 hc
  exact tok_low (h.2.2 x hx)
/-! trimmed -/
def blk5 : List UInt8 := [9, 10, 12, 13, 32]
def Trimmed (l : List UInt8) : Prop := (∀ x, l.head? = some x → x ∉ blk5) ∧ ∀ x, l.getLast? = some x → x ∉ blk5
theorem contains_not {x : UInt8} : blk5.contains x = false ↔ x ∉ blk5 := by simp
theorem head_drop (p : UInt8 → Bool) : ∀ l : List UInt8, ∀ x, (l.dropWhile p).head? = some x → p x = false
  | [], x, h => by simp at h
  | a :: l, x, h => by
    rw [List.dropWhile_cons] at h
    split at h
    · exact head_drop p l x h
    · simp at h
      subst h
      rename_i h0
      simpa using h0
theorem trimS_trimmed (l : List UInt8) : Trimmed (Lib.trimS l blk5) := by
  unfold Lib.trimS Lib.trimLeftS
  refine ⟨fun x h => contains_not.1 (head_drop _ _ x h), fun x h => ?_⟩
  have hs := List.dropWhile_suffix (l := Lib.trimRightS l blk5) (fun x => blk5.contains x)
  obtain ⟨t, ht⟩ := hs
  have : (Lib.trimRightS l blk5).getLast? = some x := by rw [← ht, List.getLast?_append, h]; rfl
  unfold Lib.trimRightS at this
  rw [List.getLast?_reverse] at this
  exact contains_not.1 (head_drop _ _ x this)
theorem trim_blank {l : List UInt8} (h : Trimmed l) : Lib.trimS (32 :: l) blk5 = l := by
  by_cases h0 : l = []
  · subst h0
    rfl
  · obtain ⟨y, hy⟩ : ∃ y, l.getLast? = some y := by
      cases hl : l.getLast? with
      | none => exact absurd (List.getLast?_eq_none_iff.1 hl) h0
      | some y => exact ⟨y, rfl⟩
    have hr : Lib.trimRightS (32 :: l) blk5 = 32 :: l := by
      unfold Lib.trimRightS
      have h1 : ((32 :: l).reverse).dropWhile (fun x => blk5.contains x) = (32 :: l).reverse := by
        have hh : ((32 :: l).reverse).head? = some y := by
          rw [List.head?_reverse]
          cases l with
          | nil => exact absurd rfl h0
          | cons a t => rw [List.getLast?_cons_cons]; exact hy
        cases hq : (32 :: l).reverse with
        | nil => rfl
        | cons a t =>
          rw [hq] at hh
          simp at hh
          subst hh
          rw [List.dropWhile_cons, contains_not.2 (h.2 a hy)]
          rfl
      rw [h1, List.reverse_reverse]
    unfold Lib.trimS
    rw [hr]
    unfold Lib.trimLeftS
    rw [List.dropWhile_cons, if_pos (by decide)]
    cases l with
    | nil => rfl
    | cons a t => rw [List.dropWhile_cons, contains_not.2 (h.1 a rfl)]; rfl
theorem trimB_data (s : ByteArray) : (trimB s).data.toList = Lib.trimS s.data.toList blk5 := rfl
/-! cut in bytes -/
theorem cutB_of {s sep : ByteArray} {a r : List UInt8} {b : Bool} (h : Lib.cut s.data.toList sep.data.toList = (a, r, b)) : cutB s sep = (⟨a.toArray⟩, ⟨r.toArray⟩, b) := by
  unfold cutB
  rw [h]
theorem cutB_sum (s sep : ByteArray) : (cutB s sep).1.size + (cutB s sep).2.1.size ≤ s.size ∧ ((cutB s sep).2.2 = true → (cutB s sep).1.size + (cutB s sep).2.1.size + sep.size ≤ s.size) := by
  unfold cutB Lib.cut
  have hd := data_len s
  have hp := data_len sep
  split
  · rename_i h0
    have hr := Lib.index_room s.data.toList sep.data.toList h0
    show (List.take _ _).toArray.size + (List.drop _ _).toArray.size ≤ _ ∧ (_ → (List.take _ _).toArray.size + (List.drop _ _).toArray.size + _ ≤ _)
    simp only [List.size_toArray, List.length_take, List.length_drop]
    omega
  · refine ⟨?_, fun h => by cases h⟩
    show s.data.toList.toArray.size + 0 ≤ _
    rw [List.size_toArray, hd]
    omega
/-! a field -/
structure GoodF (f : S67) : Prop where
  tok : isTokB f.f0 = true
  low : lowB f.f0 = f.f0
  trim : Trimmed f.f1.data.toList
  may : allB mayB f.f1 = true
theorem fieldL_good {l : ByteArray} {f : S67} (h : fieldL l = some f) : GoodF f ∧ f.f0.size + f.f1.size + 1 ≤ l.size := by
  unfold fieldL at h
  split at h
  · rename_i h1
    obtain rfl := (Option.some.inj h).symm
    refine ⟨⟨isTok_low h1.2.1, lowB_twice _, trimS_trimmed _, h1.2.2⟩, ?_⟩
    have h2 := (cutB_sum l colon).2 h1.1
    have h3 := trimB_le (cutB l colon).2.1
    have h4 := lowB_size (cutB l colon).1
    have h5 : colon.size = 1 := rfl
    simp only
    omega
  · cases h
/-- A field's line. -/
def lineF (f : S67) : List UInt8 := f.f0.data.toList ++ ([58, 32] ++ f.f1.data.toList)
theorem lineF_good {f : S67} (h : GoodF f) : goodL (lineF f) := by
  have ht := isTok_iff.1 h.tok
  refine ⟨by simp [lineF], fun k => ?_⟩
  unfold lineF at k
  rcases List.mem_append.1 k with k | k
  · exact (tok_no (ht.2.2 _ k)).1 rfl
  · rcases List.mem_append.1 k with k | k
    · simp at k
    · exact may_no (allB_iff.1 h.may _ k) rfl
theorem fieldL_line {f : S67} (h : GoodF f) : fieldL ⟨(lineF f).toArray⟩ = some f := by
  have ht := isTok_iff.1 h.tok
  have hc : cutB ⟨(lineF f).toArray⟩ colon = (f.f0, ⟨(32 :: f.f1.data.toList).toArray⟩, true) := by
    refine cutB_of ?_
    show Lib.cut (lineF f) [58] = _
    rw [show lineF f = f.f0.data.toList ++ [58] ++ (32 :: f.f1.data.toList) from by simp [lineF]]
    exact cut_byte1 (fun k => (tok_no (ht.2.2 _ k)).2 rfl) _
  have htr : trimB ⟨(32 :: f.f1.data.toList).toArray⟩ = f.f1 := ba_ext (trim_blank h.trim)
  unfold fieldL
  rw [hc]
  simp only
  rw [htr, if_pos ⟨trivial, h.tok, h.may⟩, h.low]
theorem fieldsR_blk (fs' : List S67) : ∀ (n : Nat) (fs : List S67), (∀ f ∈ fs', GoodF f) → (blk (fs'.map lineF)).length ≤ n → fieldsR n ⟨(blk (fs'.map lineF)).toArray⟩ fs = some (fs ++ fs') := by
  induction fs' with
  | nil =>
    intro n fs _ _
    rw [List.append_nil]
    exact fieldsR_end rfl
  | cons f r ih =>
    intro n fs hg hn
    have e : blk ((f :: r).map lineF) = lineF f ++ [13, 10] ++ blk (r.map lineF) := rfl
    have hc : cutB ⟨(blk ((f :: r).map lineF)).toArray⟩ crlf = (⟨(lineF f).toArray⟩, ⟨(blk (r.map lineF)).toArray⟩, true) := cutB_of (by
      show Lib.cut (blk ((f :: r).map lineF)) [13, 10] = _
      rw [e]
      exact cut_line (lineF_good (hg f List.mem_cons_self)).2 _)
    rw [e] at hn
    simp only [List.length_append, List.length_cons, List.length_nil] at hn
    obtain ⟨n, rfl⟩ : ∃ k, n = k + 1 := ⟨n - 1, by omega⟩
    have hf := fieldL_line (hg f List.mem_cons_self)
    rw [fieldsR_some (f := f) (by rw [e]; show (lineF f ++ [13, 10] ++ blk (r.map lineF)).toArray.size ≠ 0; rw [List.size_toArray]; simp) (by rw [hc]; exact hf), hc]
    rw [ih n (fs ++ [f]) (fun x hx => hg x (List.mem_cons_of_mem _ hx)) (by omega), List.append_assoc]
    rfl
/-- What fields cost. -/
def costF (fs : List S67) : Nat := (fs.map fun f => f.f0.size + f.f1.size + 4).sum
theorem fieldsR_good : ∀ (n : Nat) (s : ByteArray) (fs0 fs : List S67), (∀ f ∈ fs0, GoodF f) → fieldsR n s fs0 = some fs → (∀ f ∈ fs, GoodF f) ∧ costF fs ≤ costF fs0 + 3 * s.size
  | 0, s, fs0, fs, hg, h => by
    rw [fieldsR] at h
    split at h
    · cases h
      exact ⟨hg, by omega⟩
    · cases h
  | n + 1, s, fs0, fs, hg, h => by
    rw [fieldsR] at h
    split at h
    · cases h
      exact ⟨hg, by omega⟩
    · split at h
      · cases h
      · rename_i f hf
        obtain ⟨g1, g2⟩ := fieldL_good hf
        obtain ⟨r1, r2⟩ := fieldsR_good n _ (fs0 ++ [f]) fs (fun x hx => by
          rcases List.mem_append.1 hx with hx | hx
          · exact hg x hx
          · rw [List.mem_singleton.1 hx]; exact g1) h
        refine ⟨r1, Nat.le_trans r2 ?_⟩
        have h1 := (cutB_sum s crlf).1
        have h2 := (isTok_iff.1 g1.tok).1
        have h3 : costF (fs0 ++ [f]) = costF fs0 + (f.f0.size + f.f1.size + 4) := by simp [costF]
        omega
/-! the first line -/
theorem lsB_eq (s : ByteArray) : lsB s = (Pc.sp 32 [] s.data.toList).map fun l => (⟨l.toArray⟩ : ByteArray) := by
  unfold lsB
  have h := Lib.splitB_data spc 0 (Lib.countB s spc) s
  rw [show Lib.splitK spc.data.toList 0 (Lib.countB s spc) s.data.toList = Pc.sp 32 [] s.data.toList from Pc.splitK_sp 32 _ s.data.toList (Nat.le_refl _)] at h
  rw [← h, List.map_map]
  conv => lhs; rw [← List.map_id (Lib.splitB _ _ _ _)]
  exact List.map_congr_left fun x _ => rfl
theorem pref_iff (y : ByteArray) : prefB y slash = true ↔ ∃ r, y.data.toList = 47 :: r := by
  unfold prefB
  have h1 : slash.size = 1 := rfl
  have h2 : slash.toList = [47] := by decide +kernel
  have hd := data_len y
  rw [h1, h2, Lib.toList_data, Lib.extract_data]
  cases hy : y.data.toList with
  | nil => rw [hy] at hd; simp at hd; simp [← hd]
  | cons a r =>
    rw [hy] at hd
    simp at hd
    simp
    omega
theorem firstL_iff {l : List ByteArray} {m t : ByteArray} (h : firstL l = some (m, t)) : l = [m, t, httpv] ∧ isTokB m = true ∧ t.size ≤ 4096 ∧ prefB t slash = true ∧ allB greatB m = true ∧ allB shownB t = true := by
  unfold firstL at h
  split at h
  · split at h
    · rename_i h1
      obtain ⟨rfl, rfl⟩ := Prod.mk.inj (Option.some.inj h)
      refine ⟨?_, h1.2⟩
      rw [Lib.toList_data, Lib.toList_data] at h1
      rw [ba_ext h1.1]
    · cases h
  · cases h
/-- A request's first line. -/
def lineQ (m t : ByteArray) : List UInt8 := m.data.toList ++ ([32] ++ (t.data.toList ++ [32, 72, 84, 84, 80, 47, 49, 46, 49]))
theorem lineQ_read {m t : ByteArray} (hm : isTokB m = true) (hg : allB greatB m = true) (ht : allB shownB t = true) (hp : prefB t slash = true) (hz : t.size ≤ 4096) : goodL (lineQ m t) ∧ firstL (lsB ⟨(lineQ m t).toArray⟩) = some (m, t) := by
  have g := allB_iff.1 hg
  have s := allB_iff.1 ht
  refine ⟨⟨by simp [lineQ], fun k => ?_⟩, ?_⟩
  · unfold lineQ at k
    rcases List.mem_append.1 k with k | k
    · exact (great_no (g _ k)).1 rfl
    · rcases List.mem_append.1 k with k | k
      · simp at k
      · rcases List.mem_append.1 k with k | k
        · exact (shown_no (s _ k)).1 rfl
        · simp at k
  · have e : lsB ⟨(lineQ m t).toArray⟩ = [m, t, httpv] := by
      rw [lsB_eq, D_of]
      rw [show lineQ m t = m.data.toList ++ 32 :: (t.data.toList ++ 32 :: [72, 84, 84, 80, 47, 49, 46, 49]) from by simp [lineQ]]
      rw [Pc.sp_hit 32 _ [] _ (fun k => (great_no (g _ k)).2 rfl), Pc.sp_hit 32 _ [] _ (fun k => (shown_no (s _ k)).2.1 rfl)]
      rfl
    rw [e]
    exact if_pos ⟨rfl, hm, hz, hp, hg, ht⟩
theorem lsB_size {a m t v : ByteArray} (h : lsB a = [m, t, v]) : t.size ≤ a.size := splitB_sizes spc _ a t (by unfold lsB at h; rw [h]; simp)
/-! ### A request's text is read as it: plain -/
theorem path_no (t : ByteArray) : (63 : UInt8) ∉ (cutB t qmark).1.data.toList := by
  show (63 : UInt8) ∉ (Lib.cut t.data.toList [63]).1
  rw [Rf.cut_byte]
  split
  · intro h
    have := List.all_takeWhile (p := fun x : UInt8 => x != 63) (l := t.data.toList)
    rw [List.all_eq_true] at this
    simpa using this 63 h
  · rename_i h
    exact fun k => h (by simpa using k)
theorem path_sub (t : ByteArray) : (∀ c ∈ (cutB t qmark).1.data.toList, c ∈ t.data.toList) ∧ ∀ c ∈ (cutB t qmark).2.1.data.toList, c ∈ t.data.toList := by
  show (∀ c ∈ (Lib.cut t.data.toList [63]).1, _) ∧ ∀ c ∈ (Lib.cut t.data.toList [63]).2.1, _
  unfold Lib.cut
  split
  · exact ⟨fun c hc => List.mem_of_mem_take hc, fun c hc => List.mem_of_mem_drop hc⟩
  · exact ⟨fun c hc => hc, fun c hc => by cases hc⟩
theorem path_slash {t : ByteArray} (h : prefB t slash = true) : ∃ r, (cutB t qmark).1.data.toList = 47 :: r := by
  obtain ⟨r, hr⟩ := (pref_iff t).1 h
  show ∃ r, (Lib.cut t.data.toList [63]).1 = 47 :: r
  rw [hr, Rf.cut_byte]
  split
  · exact ⟨r.takeWhile (· != 63), rfl⟩
  · exact ⟨r, rfl⟩
theorem form_bytes (l : List (List UInt8 × List UInt8)) : ∀ c ∈ Pc.form l, shownB c = true := by
  have hp : ∀ x : List UInt8, ∀ c ∈ Pc.part x, shownB c = true := fun x c hc => by
    unfold Pc.part Pc.sub at hc
    obtain ⟨y, hy, rfl⟩ := List.mem_map.1 hc
    rcases Pc.mark_has _ _ y hy with k | k | k
    · split
      · decide +kernel
      · exact plain_shown k
    · rw [List.mem_singleton.1 k]
      decide +kernel
    · rw [k]
      decide +kernel
  have hj : ∀ L : List (List UInt8), (∀ x ∈ L, ∀ c ∈ x, shownB c = true) → ∀ c ∈ Pc.join 38 L, shownB c = true := by
    intro L
    induction L with
    | nil => intro _ c hc; cases hc
    | cons x L ih =>
      intro h c hc
      cases L with
      | nil => exact h x (by simp) c hc
      | cons y r =>
        rw [Pc.join] at hc
        rcases List.mem_append.1 hc with k | k
        · exact h x (by simp) c k
        · rcases List.mem_cons.1 k with k | k
          · rw [k]; decide +kernel
          · exact ih (fun z hz => h z (List.mem_cons_of_mem _ hz)) c k
  intro c hc
  refine hj _ (fun x hx => ?_) c hc
  obtain ⟨p, -, rfl⟩ := List.mem_map.1 hx
  intro c hc
  rcases List.mem_append.1 hc with k | k
  · exact hp _ c k
  · rcases List.mem_cons.1 k with k | k
    · rw [k]; decide +kernel
    · exact hp _ c k
/-- The query that a target has. -/
def qryF (t : ByteArray) : List S105 × Int := if (cutB t qmark).2.2 = true then parseP (cutB t qmark).2.1 else ([], 0)
theorem pairsF_eq (t bd : ByteArray) (fs : List S67) : pairsF t bd fs = if (qryF t).2 = 0 ∧ isForm fs = true then ((qryF t).1, (parseP bd).1, (parseP bd).2) else ((qryF t).1, [], (qryF t).2) := rfl
theorem qry_ok {t bd : ByteArray} {fs : List S67} (h : (pairsF t bd fs).2.2 = 0) : (qryF t).2 = 0 := by
  rw [pairsF_eq] at h
  split at h
  · rename_i h0
    exact h0.1
  · exact h
/-- The pairs that a query has, as lists. -/
def qryL (t : ByteArray) : List (List UInt8 × List UInt8) := if (cutB t qmark).2.2 = true then (Plain.told3 (cutB t qmark).2.1.data.toList).1 else []
theorem qry_list (t : ByteArray) : (qryF t).1 = (qryL t).map Plain.p105 := by
  unfold qryF qryL
  split <;> rfl
/-- A query's text. -/
def fqB (t : ByteArray) : ByteArray := ⟨(Pc.form (qryL t)).toArray⟩
/-- A target, written anew. -/
def tgtB (t : ByteArray) : ByteArray := if (qryF t).1.length > 0 then (cutB t qmark).1 ++ (qmark ++ fqB t) else (cutB t qmark).1
theorem tgt_cut (t : ByteArray) : cutB (tgtB t) qmark = if (qryF t).1.length > 0 then ((cutB t qmark).1, fqB t, true) else ((cutB t qmark).1, ⟨#[]⟩, false) := by
  unfold tgtB
  split
  · refine cutB_of ?_
    rw [data_app, data_app]
    show Lib.cut _ [63] = _
    rw [← List.append_assoc]
    exact cut_byte1 (path_no t) _
  · exact cutB_of (cut_none (path_no t))
theorem tgt_qry {t : ByteArray} (h : (qryF t).2 = 0) : qryF (tgtB t) = qryF t := by
  have hq := qry_list t
  have e : qryF t = ((qryF t).1, 0) := Prod.ext rfl h
  rw [e]
  unfold qryF at h
  show (if (cutB (tgtB t) qmark).2.2 = true then parseP (cutB (tgtB t) qmark).2.1 else ([], 0)) = _
  rw [tgt_cut]
  by_cases h0 : (qryF t).1.length > 0
  · rw [if_pos h0, if_pos rfl]
    unfold qryL at hq
    by_cases h1 : (cutB t qmark).2.2 = true
    · rw [if_pos h1] at h hq
      have ht := told_form (l := (cutB t qmark).2.1.data.toList) h
      show ((Plain.told3 (fqB t).data.toList).1.map Plain.p105, (Plain.told3 (fqB t).data.toList).2) = _
      have : (fqB t).data.toList = Pc.form (Plain.told3 (cutB t qmark).2.1.data.toList).1 := by
        show Pc.form (qryL t) = _
        unfold qryL
        rw [if_pos h1]
      rw [this, ht, hq]
    · rw [if_neg h1] at hq
      rw [hq] at h0
      cases h0
  · rw [if_neg h0, if_neg (by simp)]
    rw [List.eq_nil_of_length_eq_zero (by omega : (qryF t).1.length = 0)]
theorem tgt_shown {t : ByteArray} (h : allB shownB t = true) : allB shownB (tgtB t) = true := by
  rw [allB_iff] at h ⊢
  intro c hc
  unfold tgtB at hc
  split at hc
  · rw [data_app, data_app] at hc
    rcases List.mem_append.1 hc with k | k
    · exact h c ((path_sub t).1 c k)
    · rcases List.mem_append.1 k with k | k
      · rw [List.mem_singleton.1 k]; decide +kernel
      · exact form_bytes _ c k
  · exact h c ((path_sub t).1 c hc)
theorem tgt_slash {t : ByteArray} (h : prefB t slash = true) : prefB (tgtB t) slash = true := by
  obtain ⟨r, hr⟩ := path_slash h
  rw [pref_iff]
  unfold tgtB
  split
  · rw [data_app, hr]
    exact ⟨_, rfl⟩
  · exact ⟨r, hr⟩
theorem tgt_size {t : ByteArray} (h : allB shownB t = true) : (tgtB t).size ≤ 3 * t.size + 4 := by
  have hs := cutB_sum t qmark
  unfold tgtB
  split
  · rename_i h0
    have hf : (fqB t).size ≤ 3 * (cutB t qmark).2.1.size + 3 := by
      show (Pc.form (qryL t)).toArray.size ≤ _
      rw [List.size_toArray]
      unfold qryL
      split
      · unfold Plain.told3
        split
        · show (Pc.form []).length ≤ _
          exact Nat.zero_le _
        · rw [← data_len]
          refine form_len fun c hc => ?_
          exact (shown_no (allB_iff.1 h c ((path_sub t).2 c hc))).2.2
      · exact Nat.zero_le _
    rw [ByteArray.size_append, ByteArray.size_append]
    have : qmark.size = 1 := rfl
    omega
  · omega
/-! what stands in its fields -/
def notC (f : S67) : Bool := !isF clen f
def bareF (fs : List S67) : List S67 := fs.filter notC
def lenF (tx bd : ByteArray) : List S67 := if bd.size = 0 then [] else [⟨clen, tx⟩]
def backF (tx : ByteArray) (fs : List S67) (bd : ByteArray) : List S67 := bareF fs ++ lenF tx bd
theorem isF_iff {nm : ByteArray} {f : S67} : isF nm f = true ↔ f.f0 = nm := by
  unfold isF
  rw [beq_iff_eq, Lib.toList_data, Lib.toList_data]
  exact ⟨ba_ext, fun h => by rw [h]⟩
theorem isF_other {nm nm' : ByteArray} (h : nm ≠ nm') {f : S67} (hf : isF nm f = true) : isF nm' f = false := by
  cases h2 : isF nm' f with
  | false => rfl
  | true => exact absurd ((isF_iff.1 hf).symm.trans (isF_iff.1 h2)) h
theorem clen_tenc : tenc ≠ clen := by decide
theorem clen_ctype : lowB ctype ≠ clen := by decide +kernel
theorem isF_len (nm tx : ByteArray) (h : nm ≠ clen) : isF nm ⟨clen, tx⟩ = false := by
  cases h2 : isF nm ⟨clen, tx⟩ with
  | false => rfl
  | true => exact absurd (isF_iff.1 h2).symm h
theorem bare_back (tx : ByteArray) (fs : List S67) (bd : ByteArray) : bareF (backF tx fs bd) = bareF fs := by
  unfold backF bareF
  rw [List.filter_append, List.filter_filter]
  have h1 : (lenF tx bd).filter notC = [] := by
    rw [List.filter_eq_nil_iff]
    intro f hf
    unfold lenF at hf
    split at hf
    · cases hf
    · rw [List.mem_singleton.1 hf]
      simp [notC, isF]
  rw [h1, List.append_nil]
  simp
theorem those_tenc {fs : List S67} (h : thoseB fs tenc = []) (tx bd : ByteArray) : thoseB (backF tx fs bd) tenc = [] := by
  unfold thoseB at h ⊢
  rw [List.map_eq_nil_iff, List.filter_eq_nil_iff] at h ⊢
  intro f hf
  rcases List.mem_append.1 hf with k | k
  · exact h f (List.mem_filter.1 k).1
  · unfold lenF at k
    split at k
    · cases k
    · rw [List.mem_singleton.1 k, isF_len _ _ clen_tenc]
      simp
theorem those_clen (fs : List S67) (tx bd : ByteArray) : thoseB (backF tx fs bd) clen = if bd.size = 0 then [] else [tx] := by
  unfold thoseB backF
  rw [List.filter_append]
  have h1 : (bareF fs).filter (isF clen) = [] := by
    rw [List.filter_eq_nil_iff]
    intro f hf
    have := (List.mem_filter.1 hf).2
    unfold notC at this
    intro k
    rw [k] at this
    cases this
  rw [h1, List.nil_append]
  unfold lenF
  split
  · rfl
  · have : isF clen ⟨clen, tx⟩ = true := isF_iff.2 rfl
    rw [List.filter_cons_of_pos this]
    rfl
theorem get_back (tx : ByteArray) (fs : List S67) (bd : ByteArray) : getF (backF tx fs bd) ctype = getF fs ctype := by
  have h : (backF tx fs bd).find? (isF (lowB ctype)) = fs.find? (isF (lowB ctype)) := by
    unfold backF bareF
    rw [List.find?_append, List.find?_filter]
    have h1 : (lenF tx bd).find? (isF (lowB ctype)) = none := by
      rw [List.find?_eq_none]
      intro f hf
      unfold lenF at hf
      split at hf
      · cases hf
      · rw [List.mem_singleton.1 hf, isF_len _ _ clen_ctype]
        simp
    have h2 : (fun f => notC f && isF (lowB ctype) f) = isF (lowB ctype) := by
      funext f
      cases h3 : isF (lowB ctype) f with
      | false => simp
      | true =>
        have := isF_other clen_ctype h3
        simp [notC, this]
    have h3 : fs.find? (fun a => notC a = true ∧ isF (lowB ctype) a = true) = fs.find? (isF (lowB ctype)) := by
      congr 1
      funext f
      have := congrFun h2 f
      simp only [Bool.decide_and, Bool.decide_eq_true]
      exact this
    rw [h1, Option.or_none]
    first | exact h3 | (rw [h2])
  unfold getF
  rw [h]
theorem form_back (tx : ByteArray) (fs : List S67) (bd : ByteArray) : isForm (backF tx fs bd) = isForm fs := by
  unfold isForm
  rw [get_back]
theorem size_back {fs : List S67} {bd tx : ByteArray} (h : (sizeF fs).2 = 0) (hx : bd.size ≠ 0 → numB tx = ((bd.size : Int), 0)) : sizeF (backF tx fs bd) = ((bd.size : Int), 0) := by
  unfold sizeF at h ⊢
  have h1 : thoseB fs tenc = [] := by
    cases hq : thoseB fs tenc with
    | nil => rfl
    | cons a l => rw [hq] at h; cases h
  rw [those_tenc h1, those_clen]
  split
  · rename_i h0
    rw [h0]
    rfl
  · rename_i h0
    exact hx h0
/-! its lines -/
def textL (m t tx : ByteArray) (fs : List S67) (bd : ByteArray) : List (List UInt8) := lineQ m (tgtB t) :: (backF tx fs bd).map lineF
/-- The bytes of a request's text. -/
def textD (m t tx : ByteArray) (fs : List S67) (bd : ByteArray) : List UInt8 := blk (textL m t tx fs bd) ++ 13 :: 10 :: bd.data.toList
theorem blk_len : ∀ L : List (List UInt8), (blk L).length = (L.map fun x => x.length + 2).sum
  | [] => rfl
  | x :: L => by
    show ((x ++ [13, 10]) ++ blk L).length = _
    rw [List.length_append, List.length_append, blk_len L]
    rfl
theorem cost_lines (fs : List S67) : (blk (fs.map lineF)).length = costF fs := by
  rw [blk_len, List.map_map]
  unfold costF
  congr 1
  refine List.map_congr_left fun f _ => ?_
  show (lineF f).length + 2 = _
  unfold lineF
  simp only [List.length_append, List.length_cons, List.length_nil, data_len]
  omega
theorem cost_bare (fs : List S67) : costF (bareF fs) ≤ costF fs := by
  unfold costF bareF
  induction fs with
  | nil => simp
  | cons f r ih =>
    rw [List.filter_cons]
    split
    · simp only [List.map_cons, List.sum_cons]
      omega
    · simp only [List.map_cons, List.sum_cons]
      omega
theorem clen_good {tx : ByteArray} (h1 : Trimmed tx.data.toList) (h2 : allB mayB tx = true) : GoodF ⟨clen, tx⟩ := by
  have a : isTokB clen = true := by decide +kernel
  have b : lowB clen = clen := by decide +kernel
  exact ⟨a, b, h1, h2⟩
theorem clen_size : clen.size = 14 := rfl
/-- What else is known of a request's parts. -/
structure BackF (m t : ByteArray) (fs : List S67) (bd : ByteArray) : Prop where
  good : ∀ f ∈ fs, GoodF f
  cost : costF fs ≤ 4000
  mz : m.size ≤ 256
  tz : t.size ≤ 1302
  tgz : (tgtB t).size ≤ 4000
  bz : bd.size ≤ 1300
  ok : (pairsF t bd fs).2.2 = 0
  shown : allB shownB t = true
/-- What a request's text is read as. -/
theorem back_parse {b m t : ByteArray} {fs : List S67} {tx : ByteArray} (hb : b.size ≤ 1300) (hc : (cutB b crlf2).2.2 = true) (hX : headX (cutB b crlf2).1 = some (m, t, fs)) (hT : (tailR m t fs (restR b ((cutB b crlf2).1.size + 4))).1 = 0)
    (hx1 : Trimmed tx.data.toList) (hx2 : allB mayB tx = true) (hx3 : tx.size ≤ 1000) (hx4 : (restR b ((cutB b crlf2).1.size + 4)).size ≤ 1300 → numB tx = (((restR b ((cutB b crlf2).1.size + 4)).size : Int), 0)) :
    (textD m t tx fs (restR b ((cutB b crlf2).1.size + 4))).length ≤ 8192 ∧
    parseR ⟨(textD m t tx fs (restR b ((cutB b crlf2).1.size + 4))).toArray⟩ = (0, ⟨m, (cutB t qmark).1, (pairsF t (restR b ((cutB b crlf2).1.size + 4)) fs).1, backF tx fs (restR b ((cutB b crlf2).1.size + 4)), restR b ((cutB b crlf2).1.size + 4), (pairsF t (restR b ((cutB b crlf2).1.size + 4)) fs).2.1⟩) ∧ BackF m t fs (restR b ((cutB b crlf2).1.size + 4)) := by
  have hroom := cut_room (b := b) (by rw [cutH_small (by omega)]; exact hc)
  rw [cutH_small (by omega)] at hroom
  have hrl := restR_len b ((cutB b crlf2).1.size + 4)
  generalize hbd : restR b ((cutB b crlf2).1.size + 4) = bd at *
  generalize (cutB b crlf2).1 = hd at *
  obtain ⟨t1, t2, t3, t4⟩ := tail_ok hT
  -- the head
  unfold headX at hX
  cases hfl : firstL (lsB (cutB (hd ++ crlf) crlf).1) with
  | none => rw [hfl] at hX; cases hX
  | some x =>
    obtain ⟨m', t'⟩ := x
    rw [hfl] at hX
    simp only at hX
    cases hfr : fieldsR (cutB (hd ++ crlf) crlf).2.1.size (cutB (hd ++ crlf) crlf).2.1 [] with
    | none => rw [hfr] at hX; cases hX
    | some fs' =>
      rw [hfr] at hX
      simp only [Option.some.injEq, Prod.mk.injEq] at hX
      obtain ⟨rfl, rfl, rfl⟩ := hX
      have hsum := (cutB_sum (hd ++ crlf) crlf).1
      rw [ByteArray.size_append] at hsum
      have hcr : crlf.size = 2 := rfl
      obtain ⟨f1, f2, f3, f4, f5, f6⟩ := firstL_iff hfl
      have hts := lsB_size f1
      obtain ⟨hg, hcost⟩ := fieldsR_good _ _ _ _ (by simp) hfr
      have hz : costF [] = 0 := rfl
      have htz := tgt_size f6
      have hmz := (isTok_iff.1 f2).2.1
      have hcb := cost_bare fs'
      have hgb : ∀ f ∈ backF tx fs' bd, GoodF f := fun f hf => by
        rcases List.mem_append.1 hf with k | k
        · exact hg f (List.mem_filter.1 k).1
        · unfold lenF at k
          split at k
          · cases k
          · rw [List.mem_singleton.1 k]
            exact clen_good hx1 hx2
      obtain ⟨q1, q2⟩ := lineQ_read f2 f5 (tgt_shown f6) (tgt_slash f4) (by omega)
      have hlg : ∀ x ∈ textL m' t' tx fs' bd, goodL x := fun x hx => by
        rcases List.mem_cons.1 hx with k | k
        · rw [k]; exact q1
        · obtain ⟨f, hf, rfl⟩ := List.mem_map.1 k
          exact lineF_good (hgb f hf)
      have hback : costF (backF tx fs' bd) ≤ costF fs' + 1018 := by
        have e : costF (backF tx fs' bd) = costF (bareF fs') + costF (lenF tx bd) := by simp [costF, backF]
        have h2 : costF (lenF tx bd) ≤ 1018 := by
          unfold lenF
          split
          · exact Nat.zero_le _
          · simp only [costF, List.map_cons, List.map_nil, List.sum_cons, List.sum_nil, clen_size]
            omega
        omega
      have hqz : (lineQ m' (tgtB t')).length = m'.size + (tgtB t').size + 10 := by
        unfold lineQ
        simp only [List.length_append, List.length_cons, List.length_nil, data_len]
        omega
      have hlen : (textD m' t' tx fs' bd).length ≤ 8192 := by
        unfold textD textL
        rw [List.length_append, List.length_cons, List.length_cons, data_len]
        have : (blk (lineQ m' (tgtB t') :: (backF tx fs' bd).map lineF)).length = (lineQ m' (tgtB t')).length + 2 + costF (backF tx fs' bd) := by
          rw [← cost_lines]
          show ((lineQ m' (tgtB t') ++ [13, 10]) ++ blk _).length = _
          rw [List.length_append, List.length_append]
          rfl
        omega
      refine ⟨hlen, ?_, ⟨hg, by omega, hmz, by omega, by omega, by omega, t3, f6⟩⟩
      obtain ⟨hd2, e1, e2⟩ := cut_four (ls := textL m' t' tx fs' bd) bd.data.toList (by simp [textL]) hlg
      have hcut : cutB ⟨(textD m' t' tx fs' bd).toArray⟩ crlf2 = (⟨hd2.toArray⟩, ⟨bd.data.toList.toArray⟩, true) := cutB_of e2
      have hsz : (⟨(textD m' t' tx fs' bd).toArray⟩ : ByteArray).size ≤ 8192 := by
        show (textD m' t' tx fs' bd).toArray.size ≤ _
        rw [List.size_toArray]
        exact hlen
      have happ : (⟨hd2.toArray⟩ : ByteArray) ++ crlf = ⟨(blk (textL m' t' tx fs' bd)).toArray⟩ := ba_ext (by rw [data_app]; exact e1.symm)
      have hfst : cutB ⟨(blk (textL m' t' tx fs' bd)).toArray⟩ crlf = (⟨(lineQ m' (tgtB t')).toArray⟩, ⟨(blk ((backF tx fs' bd).map lineF)).toArray⟩, true) := cutB_of (by
        show Lib.cut (lineQ m' (tgtB t') ++ [13, 10] ++ blk ((backF tx fs' bd).map lineF)) [13, 10] = _
        exact cut_line q1.2 _)
      have hrest : restR ⟨(textD m' t' tx fs' bd).toArray⟩ ((⟨hd2.toArray⟩ : ByteArray).size + 4) = bd := by
        apply ba_ext
        unfold restR
        rw [Lib.extract_data]
        show List.take _ ((textD m' t' tx fs' bd).drop (hd2.toArray.size + 4)) = _
        rw [List.size_toArray]
        have : (textD m' t' tx fs' bd).drop (hd2.length + 4) = bd.data.toList := by
          unfold textD
          rw [e1, show hd2 ++ [13, 10] ++ 13 :: 10 :: bd.data.toList = (hd2 ++ [13, 10, 13, 10]) ++ bd.data.toList from by simp]
          rw [show hd2.length + 4 = (hd2 ++ [13, 10, 13, 10]).length from by simp, List.drop_left]
        rw [this]
        refine List.take_of_length_le ?_
        have h7 := congrArg List.length this
        rw [List.length_drop] at h7
        show bd.data.toList.length ≤ (textD m' t' tx fs' bd).toArray.size - (hd2.toArray.size + 4)
        rw [List.size_toArray, List.size_toArray, h7]
        exact Nat.le_refl _
      rw [parse_small hsz, hcut]
      simp only
      rw [if_pos trivial, hrest, headR_eq]
      unfold headX
      rw [happ, hfst]
      simp only
      rw [q2]
      simp only
      rw [fieldsR_blk _ _ [] hgb (by show _ ≤ (blk _).toArray.size; rw [List.size_toArray]; exact Nat.le_refl _), List.nil_append]
      simp only
      have hq0 := qry_ok t3
      have hpf : pairsF (tgtB t') bd (backF tx fs' bd) = pairsF t' bd fs' := by
        rw [pairsF_eq, pairsF_eq, tgt_qry hq0, form_back]
      have hsb := size_back (fs := fs') (bd := bd) (tx := tx) t1 (fun _ => hx4 (by omega))
      have hbo : bodyF (backF tx fs' bd) bd.size = 0 := bodyF4 (by rw [hsb]) (by rw [hsb]; simp) (by rw [hsb]; simp)
      rw [tailR3 hbo (by rw [hpf]; exact t3), hpf, tgt_cut]
      split <;> rfl
/-! ### told, Same, as they come out: plain -/
def d38 (f : S67) : S38 := ⟨f.f0, f.f1⟩
def d84 (x : S105) : S84 := ⟨x.f0, x.f1⟩
theorem q_back (q : List S105) : (q.map fun x => (x.f0.data.toList, x.f1.data.toList)).map Plain.p105 = q := by
  rw [List.map_map]
  conv => rhs; rw [← List.map_id q]
  exact List.map_congr_left fun x _ => rfl
theorem ours_any (q : List S105) (hl : q.length ≤ 100000001) : Ev (fun k => cringlelaw29_ours.f k q) (q.map d84) := by
  have := Plain.ours_ev (q.map fun x => (x.f0.data.toList, x.f1.data.toList)) (by rw [List.length_map]; exact hl)
  rw [q_back, List.map_map] at this
  exact this
theorem at67' {l : List S67} {i : Nat} (h : i < l.length) : rd_T67 l (i : Int) = l[i] := by
  unfold rd_T67
  rw [Int.toNat_natCast, List.getD_eq_getElem?_getD, List.getElem?_eq_getElem h]
  rfl
theorem told_loop (m p : ByteArray) (q v : List S84) (b : ByteArray) (fs : List S67) (hl : fs.length ≤ 100000001) (d : Nat) : ∀ (i : Nat) (pre : List S38), i + d = fs.length → pre.length ≤ i → Ev (fun k => cringlelaw29_told.l0 k fs (fs.length : Int) (i : Int) m p q pre b v) (m, p, q, pre ++ (fs.drop i).map d38, b, v) := by
  induction d with
  | zero =>
    intro i pre hi hp
    refine Ev.step (f := fun _ => some (m, p, q, pre, b, v)) (fun k => ?_) ?_
    · simp only [cringlelaw29_told.l0]
      rw [if_neg (by omega)]
    · rw [List.drop_of_length_le (by omega), List.map_nil, List.append_nil]
      exact Ev.now _
  | succ d ih =>
    intro i pre hi hp
    have hlt : i < fs.length := by omega
    have := ih (i + 1) (pre ++ [d38 fs[i]]) (by omega) (by simp; omega)
    rw [Plain.drop_at hlt, List.map_cons, show pre ++ d38 fs[i] :: (fs.drop (i + 1)).map d38 = pre ++ [d38 fs[i]] ++ (fs.drop (i + 1)).map d38 from by simp]
    refine Ev.step (fun k => ?_) this
    simp only [cringlelaw29_told.l0]
    rw [if_pos (by omega), if_pos (by omega), if_pos (by omega), if_pos (by omega), at67' (by omega), Plain.next (by omega)]
    rfl
theorem told_ev (r : Rq) (h1 : r.q.length ≤ 100000001) (h2 : r.v.length ≤ 100000001) (h3 : r.f.length ≤ 100000001) : Ev (fun k => cringlelaw29_told.f k r.m r.p r.q r.f r.b r.v) (r.m, r.p, r.q.map d84, r.f.map d38, r.b, r.v.map d84) := by
  have := told_loop r.m r.p (r.q.map d84) (r.v.map d84) r.b r.f h3 r.f.length 0 [] (by omega) (by simp)
  rw [List.drop_zero, List.nil_append] at this
  unfold cringlelaw29_told.f
  exact Ev.bind (ours_any r.q h1) (Ev.bind (ours_any r.v h2) this)
theorem sameF_loop (l : List S38) (hl : l.length ≤ 100000001) (d : Nat) : ∀ i : Nat, i + d = l.length → Ev (fun k => cringleref29_SameFields.l0 k l l (i : Int)) true := by
  induction d with
  | zero =>
    intro i hi
    refine Ev.step (f := fun _ => some true) (fun k => ?_) (Ev.now _)
    simp only [cringleref29_SameFields.l0]
    rw [if_neg (by omega)]
  | succ d ih =>
    intro i hi
    refine Ev.step (fun k => ?_) (ih (i + 1) (by omega))
    simp only [cringleref29_SameFields.l0]
    rw [if_pos (by omega), if_pos (by omega), if_pos (by omega), if_neg (by simp), Plain.next (by omega)]
theorem sameF_ev (l : List S38) (hl : l.length ≤ 100000001) : Ev (fun k => cringleref29_SameFields.f k l l) true := by
  unfold cringleref29_SameFields.f
  exact Ev.congr (fun k => if_pos rfl) (sameF_loop l hl l.length 0 (by omega))
theorem sameP_loop (l : List S84) (hl : l.length ≤ 100000001) (d : Nat) : ∀ i : Nat, i + d = l.length → Ev (fun k => cringleref29_SamePairs.l0 k l l (i : Int)) true := by
  induction d with
  | zero =>
    intro i hi
    refine Ev.step (f := fun _ => some true) (fun k => ?_) (Ev.now _)
    simp only [cringleref29_SamePairs.l0]
    rw [if_neg (by omega)]
  | succ d ih =>
    intro i hi
    refine Ev.step (fun k => ?_) (ih (i + 1) (by omega))
    simp only [cringleref29_SamePairs.l0]
    rw [if_pos (by omega), if_pos (by omega), if_pos (by omega), if_neg (by simp), Plain.next (by omega)]
theorem sameP_ev (l : List S84) (hl : l.length ≤ 100000001) : Ev (fun k => cringleref29_SamePairs.f k l l) true := by
  unfold cringleref29_SamePairs.f
  exact Ev.congr (fun k => if_pos rfl) (sameP_loop l hl l.length 0 (by omega))
theorem same_ev (m p : ByteArray) (q v : List S84) (f : List S38) (b : ByteArray) (h1 : q.length ≤ 100000001) (h2 : v.length ≤ 100000001) (h3 : f.length ≤ 100000001) : Ev (fun k => cringleref29_Same.f k m p q f b v m p q f b v) true := by
  unfold cringleref29_Same.f
  refine Ev.congr (fun k => if_pos rfl) (Ev.congr (fun k => if_pos rfl) (Ev.congr (fun k => if_pos rfl) ?_))
  refine Ev.bind (sameF_ev f h3) (Ev.congr (fun k => if_pos rfl) ?_)
  refine Ev.bind (sameP_ev q h1) (Ev.congr (fun k => if_pos rfl) ?_)
  exact Ev.bind (sameP_ev v h2) (Ev.now _)
/-! ### bare (10) -/
theorem clen_list : clen.toList = [99, 111, 110, 116, 101, 110, 116, 45, 108, 101, 110, 103, 116, 104] := by decide +kernel
def notD (f : S38) : Bool := f.f0.toList != clen.toList
def bareD (fs : List S38) : List S38 := fs.filter notD
theorem bareD_map (fs : List S67) : bareD (fs.map d38) = (bareF fs).map d38 := by
  unfold bareD bareF
  rw [List.filter_map]
  rfl
theorem bareD_take {fs : List S38} {n : Nat} (h : n < fs.length) : bareD (fs.take (n + 1)) = if notD fs[n] = true then bareD (fs.take n) ++ [fs[n]] else bareD (fs.take n) := by
  unfold bareD
  rw [List.take_succ_eq_append_getElem h, List.filter_append]
  split
  · rename_i h1
    rw [List.filter_cons_of_pos h1]
    rfl
  · rename_i h1
    rw [List.filter_cons_of_neg h1]
    simp
theorem bareD_len (fs : List S38) (n : Nat) : (bareD (fs.take n)).length ≤ fs.length := by
  unfold bareD
  refine Nat.le_trans (List.length_filter_le _ _) ?_
  rw [List.length_take]
  omega
theorem info38 : (Tryz.prog.info? 38).map (fun i => (i.zero, i.size, i.bytes)) = some (some (.agg #[(.string ⟨#[]⟩), (.string ⟨#[]⟩)]), 2, 32) := by kernel_rfl
theorem results_row1 {fn : Func} {p : Tmp} {ty : TypeId} (h : fn.results = #[.cell p ty]) {tmps : Array Value} {w : World} {g : Nat} {cs : Array Value}
    (hp : tmps.getD p undef = .pointer (some ⟨g, 0, none⟩)) (hl : (loadVar ty ⟨g, 0, none⟩).run Tryz.prog w = .ok (.agg cs) w) :
    (results fn tmps).run Tryz.prog w = .ok (.agg cs) w := by
  have hp' : tmps[p]?.getD undef = .pointer (some ⟨g, 0, none⟩) := by simpa using hp
  simp [results, h, Sem.run_bind, Result.andThen, hp', asAddr, hl]
set_option maxHeartbeats 4000000 in
theorem p_bare.calls {A Aq Am : Option Addr} {c nq cq nm cm : Nat} {fs : List S38} {m p bd : ByteArray} {w : World} (hC : Kd.C k38 w A fs.length fs) (hn : fs.length ≤ 1000000) :
    Calls Tryz.prog 10 #[.agg #[.string m, .string p, .slice Aq nq cq, .slice A fs.length c, .string bd, .slice Am nm cm]] w fun e w' => ∃ A' c', e = .returned (.agg #[.string m, .string p, .slice Aq nq cq, .slice A' (bareD fs).length c', .string bd, .slice Am nm cm]) ∧ Kd.R k38 38 w' w.heap.size (fun _ => True) (.slice A' (bareD fs).length c') (bareD fs) ∧ Below w.heap.size w w' := by
  obtain ⟨W1, hW1⟩ : ∃ W, W = w.alloc (.cells #[.string m, .string p, .slice Aq nq cq, .slice A fs.length c, .string bd, .slice Am nm cm] 34) := ⟨_, rfl⟩
  obtain ⟨W2, hW2⟩ : ∃ W, W = W1.alloc (.cells #[.string ⟨#[]⟩, .string ⟨#[]⟩, .slice none 0 0, .slice none 0 0, .string ⟨#[]⟩, .slice none 0 0] 34) := ⟨_, rfl⟩
  have HP2 := Aside0.mk (show Blk.At w.heap.size #[.string m, .string p, .slice Aq nq cq, .slice A fs.length c, .string bd, .slice Am nm cm] 34 W2 from by rw [hW2, hW1]; exact (Blk.At.new w _ _).alloc _)
  have HZ2 := Aside0.mk (show Blk.At W1.heap.size #[.string ⟨#[]⟩, .string ⟨#[]⟩, .slice none 0 0, .slice none 0 0, .string ⟨#[]⟩, .slice none 0 0] 34 W2 from hW2 ▸ Blk.At.new W1 _ _)
  have HB2 := Aside0.mk (show Below w.heap.size w W2 from by rw [hW2, hW1]; exact below_alloc (below_alloc (Below.refl _ _) _) _)
  have HS1 := Aside0.mk (show w.heap.size < W1.heap.size from by rw [hW1]; exact Nat.lt_of_lt_of_eq (Nat.lt_succ_self _) (Array.size_push _).symm)
  replace hW1 := hW1.symm
  replace hW2 := hW2.symm
  have HC := Aside0.mk hC
  have HN := Aside0.mk hn
  have c3 : W2.cell? ⟨w.heap.size, 3, none⟩ = some (.slice A fs.length c) := HP2.out.cell 3
  clear hC hn
  go_enter Tryz.func10, Tryz.ntmps10
  go_wp2_with fail
  clear c3
  go_loopw [9, 3] (fun j v wr => ∃ n : Nat, n ≤ fs.length ∧ j = .int .i64 n ∧ Aside0 (Kd.R k38 38 wr w.heap.size (fun _ => True) v (bareD (fs.take n))) ∧ Aside0 (Below w.heap.size w wr) ∧ Aside0 (Blk.At w.heap.size #[.string m, .string p, .slice Aq nq cq, .slice A fs.length c, .string bd, .slice Am nm cm] 34 wr) ∧ Aside0 (Blk.At W1.heap.size #[.string ⟨#[]⟩, .string ⟨#[]⟩, .slice none 0 0, .slice none 0 0, .string ⟨#[]⟩, .slice none 0 0] 34 wr)) (fun j _ _ => fs.length - (intOf j).toNat)
  case atStart => exact ⟨0, Nat.zero_le _, rfl, ⟨Kd.R_nil _ _ _ _ _⟩, HB2, HP2, HZ2⟩
  case round =>
    clear HB2 HP2 HZ2
    obtain ⟨n, hn, rfl, HL, HB, HP, HZ⟩ := hrel
    by_cases hlt : n < fs.length
    · obtain ⟨ad, rfl, hc0, hc1⟩ := at_T38 (Kd.C_below HC.out HB.out) (n : Int) (Int.natCast_nonneg _) (by omega)
      have HI := Aside0.mk (bareD_take hlt)
      have HLEN := Aside0.mk (show ((bareD (fs.take n)).length + 1) * 32 ≤ 140737488355328 from by
        have h1 := bareD_len fs n
        have h2 := HN.out
        omega)
      rw [Int.toNat_natCast] at hc0 hc1
      rw [show rd_T38 fs (n : Int) = fs[n] from by simp [rd_T38, hlt]] at hc0 hc1
      obtain ⟨f, hf⟩ : ∃ f, f = fs[n] := ⟨_, rfl⟩
      rw [← hf] at HI hc0 hc1
      have en := w_succ (i := n) (by have := HN.out; omega)
      obtain ⟨WR, hWR⟩ : ∃ W, W = wr.alloc (.cells #[.string f.f0, .string f.f1] 38) := ⟨_, rfl⟩
      have HL1 := Aside0.mk (show Kd.R k38 38 WR w.heap.size (fun _ => True) _ _ from hWR ▸ Kd.R_alloc HL.out (.cells #[.string f.f0, .string f.f1] 38))
      have HB1 := Aside0.mk (show Below w.heap.size w WR from hWR ▸ below_alloc HB.out (.cells #[.string f.f0, .string f.f1] 38))
      have HP1 := Aside0.mk (show Blk.At w.heap.size _ 34 WR from hWR ▸ HP.out.alloc (.cells #[.string f.f0, .string f.f1] 38))
      have HZ1 := Aside0.mk (show Blk.At W1.heap.size _ 34 WR from hWR ▸ HZ.out.alloc (.cells #[.string f.f0, .string f.f1] 38))
      have hat := hWR ▸ Blk.At.new wr #[.string f.f0, .string f.f1] 38
      have k0 : WR.cell? ⟨wr.heap.size, 0, none⟩ = some (.string f.f0) := hat.cell 0
      have k1 : WR.cell? ⟨wr.heap.size, 1, none⟩ = some (.string f.f1) := hat.cell 1
      clear hat
      replace hWR := hWR.symm
      have HLT := Aside0.mk hlt
      clear hf HB HL HP HZ
      unfold notD at HI
      rw [clen_list] at HI
      cases hq : f.f0.toList == [99, 111, 110, 116, 101, 110, 116, 45, 108, 101, 110, 103, 116, 104] with
      | true =>
        have hq2 : (f.f0.toList != [99, 111, 110, 116, 101, 110, 116, 45, 108, 101, 110, 103, 116, 104]) = false := by rw [bne, hq]; rfl
        rw [hq2] at HI
        go_wp2_with fail
        rw [en]
        go_roundw
        case rel => exact ⟨n + 1, HLT.out, rfl, ⟨by rw [HI.out]; exact HL1.out⟩, HB1, HP1, HZ1⟩
        case measure =>
          simp only [intOf, Int.toNat_natCast]
          have := HLT.out
          omega
      | false =>
        have hq2 : (f.f0.toList != [99, 111, 110, 116, 101, 110, 116, 45, 108, 101, 110, 103, 116, 104]) = true := by rw [bne, hq]; rfl
        rw [hq2] at HI
        go_wp2_with (at_builtin; refine Kd.R_append k38 (w0 := w) w.heap.size rfl (.tmp 16) (.tmp 18) 32 38 (.agg #[.string ⟨#[]⟩, .string ⟨#[]⟩]) 32 rfl Tryz.underlying32 info38 rfl (by decide) (by decide) u3 (bareD (fs.take n)) f [.string f.f0, .string f.f1] (fun _ => True) (fun k => some k ≠ u3.ownBlock) rfl rfl (k38_mkM _ _ _ _) (fun k hk => ⟨trivial, hk⟩) (fun _ _ => trivial) HL1.out HB1.out HB1.out.size HLEN.out ?_; intro v1 w5 ho hb hg hat; have HO5 := Aside0.mk ho; have HB5 := Aside0.mk hb; have HG5 := Aside0.mk hg; clear ho hb hg hat)
        have HKF := Aside0.mk (Kf.grown (ts := [38]) HG5.out (by simp) (Kd.R_typed HL1.out))
        rw [en]
        go_roundw
        case rel => exact ⟨n + 1, HLT.out, rfl, ⟨by rw [HI.out]; exact HO5.out⟩, HB5, ⟨Kf.at HKF.out HP1.out (by simp)⟩, ⟨Kf.at HKF.out HZ1.out (by simp)⟩⟩
        case measure =>
          simp only [intOf, Int.toNat_natCast]
          have := HLT.out
          omega
    · obtain rfl : n = fs.length := by omega
      rw [List.take_length] at HL
      obtain ⟨A', c', rfl⟩ := Kd.R_slice HL.out
      have f3 := HP.out.frozen 3
      have k3 : wr.cell? ⟨w.heap.size, 3, none⟩ = some (.slice A fs.length c) := HP.out.cell 3
      have HP3 := Aside0.mk (HP.out.set 3 (.slice A' (bareD fs).length c'))
      have HZ3 := Aside0.mk (HZ.out.set_other (Nat.ne_of_lt HS1.out) 3 (.slice A' (bareD fs).length c'))
      have HB3 := Aside0.mk (HB.out.setCell (p := ⟨w.heap.size, 3, none⟩) (Nat.le_refl _) (.slice A' (bareD fs).length c'))
      have HR3 := Aside0.mk (Kd.R_set HL.out HP.out (by intro q hq; rw [List.mem_singleton.1 hq]; decide) 3 (.slice A' (bareD fs).length c'))
      obtain ⟨w3, hw3⟩ : ∃ W, W = wr.setCell ⟨w.heap.size, 3, none⟩ (.slice A' (bareD fs).length c') := ⟨_, rfl⟩
      rw [← hw3] at HP3 HZ3 HB3 HR3
      replace hw3 := hw3.symm
      have x0 : w3.cell? ⟨w.heap.size, 0, none⟩ = some (.string m) := HP3.out.cell 0
      have x1 : w3.cell? ⟨w.heap.size, 1, none⟩ = some (.string p) := HP3.out.cell 1
      have x2 : w3.cell? ⟨w.heap.size, 2, none⟩ = some (.slice Aq nq cq) := HP3.out.cell 2
      have x3 : w3.cell? ⟨w.heap.size, 3, none⟩ = some (.slice A' (bareD fs).length c') := HP3.out.cell 3
      have x4 : w3.cell? ⟨w.heap.size, 4, none⟩ = some (.string bd) := HP3.out.cell 4
      have x5 : w3.cell? ⟨w.heap.size, 5, none⟩ = some (.slice Am nm cm) := HP3.out.cell 5
      have y0 : w3.cell? ⟨W1.heap.size, 0, none⟩ = some (.string ⟨#[]⟩) := HZ3.out.cell 0
      have y1 : w3.cell? ⟨W1.heap.size, 1, none⟩ = some (.string ⟨#[]⟩) := HZ3.out.cell 1
      have y2 : w3.cell? ⟨W1.heap.size, 2, none⟩ = some (.slice none 0 0) := HZ3.out.cell 2
      have y3 : w3.cell? ⟨W1.heap.size, 3, none⟩ = some (.slice none 0 0) := HZ3.out.cell 3
      have y4 : w3.cell? ⟨W1.heap.size, 4, none⟩ = some (.string ⟨#[]⟩) := HZ3.out.cell 4
      have y5 : w3.cell? ⟨W1.heap.size, 5, none⟩ = some (.slice none 0 0) := HZ3.out.cell 5
      have z0 := HZ3.out.frozen 0
      have z1 := HZ3.out.frozen 1
      have z2 := HZ3.out.frozen 2
      have z3 := HZ3.out.frozen 3
      have z4 := HZ3.out.frozen 4
      have z5 := HZ3.out.frozen 5
      clear HL HP HZ HB hn hlt
      go_wp2_with fail
      refine bodyPost_ret (results_row1 (ty := 34) rfl rfl (run_loadVar_row _ _ 34 34 _ _ _ (at6 HZ3.out rfl _ _ _ _ _ _) Tryz.underlying34 rfl (by kernel_rfl))) rfl ?_
      exact ⟨A', c', rfl, (kf6 HZ3.out _ _ _ _ _ _).R HR3.out (by intro q hq; rw [List.mem_singleton.1 hq]; decide), below6 HB3.out (Nat.le_of_lt HS1.out) _ _ _ _ _ _⟩
/-! ### A request's text, as bytes: plain -/
theorem sameB_good {f : S67} (h : GoodF f) : sameB f.f0 clen = isF clen f := by
  have hl : lowB clen = clen := by decide +kernel
  unfold sameB
  rw [h.low, hl]
  unfold isF
  cases hq : f.f0.toList == clen.toList with
  | false => rw [Bool.and_false]
  | true =>
    have : f.f0 = clen := ba_ext (by rw [← Lib.toList_data, ← Lib.toList_data]; exact eq_of_beq hq)
    rw [this]
    simp
theorem blk_app (a b : List (List UInt8)) : blk (a ++ b) = blk a ++ blk b := by unfold blk; rw [List.flatMap_append]
theorem fldT_data : ∀ (fs : List S67) (t : ByteArray), (∀ f ∈ fs, GoodF f) → (fldT t fs).data.toList = t.data.toList ++ blk ((bareF fs).map lineF)
  | [], t, _ => by simp [fldT, bareF, blk]
  | f :: fs, t, hg => by
    have ih := fldT_data fs (stepT t f) (fun x hx => hg x (List.mem_cons_of_mem _ hx))
    have hs := sameB_good (hg f List.mem_cons_self)
    show (fldT (stepT t f) fs).data.toList = _
    rw [ih]
    unfold bareF
    rw [List.filter_cons]
    cases hq : isF clen f with
    | true =>
      rw [stepT_yes (by rw [hs, hq]), if_neg (by simp [notC, hq])]
    | false =>
      rw [stepT_no (by rw [hs, hq]), if_pos (by simp [notC, hq]), lnB_data, List.map_cons]
      show t.data.toList ++ (f.f0.data.toList ++ ([58, 32] ++ (f.f1.data.toList ++ [])) ++ [13, 10]) ++ _ = t.data.toList ++ ((lineF f ++ [13, 10]) ++ blk _)
      unfold lineF
      simp [List.append_assoc]
theorem endT_data (t tx bd : ByteArray) : (endT t tx bd).data.toList = t.data.toList ++ blk ((lenF tx bd).map lineF) := by
  unfold endT lenF
  by_cases h : bd.toList = []
  · have hz : bd.size = 0 := (emp_iff bd).1 (by rw [h]; rfl)
    rw [if_pos h, if_pos hz]
    simp [blk]
  · have hz : ¬ bd.size = 0 := fun k => h (by
      have := (emp_iff bd).2 k
      exact List.isEmpty_iff.1 this)
    rw [if_neg h, if_neg hz, lnB_data]
    show _ = t.data.toList ++ ((lineF ⟨clen, tx⟩ ++ [13, 10]) ++ [])
    unfold lineF
    simp [List.append_assoc]
theorem txtB_data {m t tx bd : ByteArray} {fs : List S67} (hg : ∀ f ∈ fs, GoodF f) : txtB m (tgtB t) tx fs bd = ⟨(textD m t tx fs bd).toArray⟩ := by
  apply ba_ext
  unfold txtB textD textL
  rw [data_app, lnB_data, endT_data, fldT_data fs _ hg]
  unfold firT
  rw [lnB_data]
  show (((⟨#[]⟩ : ByteArray).data.toList ++ ((m.data.toList ++ ([32] ++ ((tgtB t).data.toList ++ ([32, 72, 84, 84, 80, 47, 49, 46, 49] ++ [])))) ++ [13, 10])) ++ blk ((bareF fs).map lineF) ++ blk ((lenF tx bd).map lineF)) ++ ([] ++ [13, 10]) ++ bd.data.toList = ((lineQ m (tgtB t) ++ [13, 10]) ++ blk ((bareF fs ++ lenF tx bd).map lineF)) ++ 13 :: 10 :: bd.data.toList
  rw [List.map_append, blk_app]
  unfold lineQ
  simp [List.append_assoc]
theorem back_good {m t tx bd : ByteArray} {fs : List S67} (h : BackF m t fs bd) (hx1 : Trimmed tx.data.toList) (hx2 : allB mayB tx = true) : ∀ f ∈ backF tx fs bd, GoodF f := fun f hf => by
  rcases List.mem_append.1 hf with k | k
  · exact h.good f (List.mem_filter.1 k).1
  · unfold lenF at k
    split at k
    · cases k
    · rw [List.mem_singleton.1 k]
      exact clen_good hx1 hx2
theorem txt_again {m t tx bd : ByteArray} {fs : List S67} (h : BackF m t fs bd) (hx1 : Trimmed tx.data.toList) (hx2 : allB mayB tx = true) : txtB m (tgtB t) tx (backF tx fs bd) bd = txtB m (tgtB t) tx fs bd := by
  rw [txtB_data (back_good h hx1 hx2), txtB_data h.good]
  have : backF tx (backF tx fs bd) bd = backF tx fs bd := by
    show bareF (backF tx fs bd) ++ lenF tx bd = _
    rw [bare_back]
    rfl
  unfold textD textL
  rw [this]
/-! the number of its bytes -/
theorem byte_num {tx : ByteArray} (h : ∀ x ∈ bytesOf tx, 48 ≤ x ∧ x ≤ 57) : ∀ c ∈ tx.data.toList, mayB c = true ∧ c ∉ blk5 := by
  intro c hc
  have h1 : (c.toNat : Int) ∈ bytesOf tx := List.mem_map.2 ⟨c, hc, rfl⟩
  have h2 := h _ h1
  have := digit_may_all ⟨c.toNat, c.toNat_lt⟩ (by show 48 ≤ c.toNat; omega) (by show c.toNat ≤ 57; omega)
  simpa [blk5] using this
theorem tx_facts {n : Nat} (hn : n ≤ 1300) : Trimmed (strOfNums (Plain.padded (n : Int) 1)).data.toList ∧ allB mayB (strOfNums (Plain.padded (n : Int) 1)) = true ∧ (strOfNums (Plain.padded (n : Int) 1)).size ≤ 1000 ∧ numB (strOfNums (Plain.padded (n : Int) 1)) = ((n : Int), 0) ∧ ∃ k, ascii_Text.f k (n : Int) = some (strOfNums (Plain.padded (n : Int) 1)) := by
  obtain ⟨d1, d2, d3⟩ := Plain.dig_padded (a0 := (n : Int)) (a1 := 1) (by omega)
  have hb := Plain.padded_bytes (a0 := (n : Int)) (a1 := 1) (by omega)
  have hd := byte_num (tx := strOfNums (Plain.padded (n : Int) 1)) (fun x hx => by rw [hb] at hx; exact d1 x hx)
  have hr : -9223372036854775808 ≤ (n : Int) ∧ (n : Int) < 9223372036854775808 := by omega
  refine ⟨⟨fun x hx => (hd x (List.mem_of_head? hx)).2, fun x hx => (hd x (List.mem_of_getLast? hx)).2⟩, allB_iff.2 fun c hc => (hd c hc).1, ?_, ?_, ?_⟩
  · rw [Plain.str_size]
    exact Plain.padded_len _ _ hr
  · unfold numB Plain.num
    rw [hb, if_neg d2, if_pos d1, d3, if_pos (by omega)]
  · obtain ⟨k, hk⟩ := Plain.text_ev (n : Int) hr
    exact ⟨k, hk k (Nat.le_refl _)⟩
/-! its query's text -/
theorem cut61_le (x : List UInt8) : (Lib.cut x [61]).1.length ≤ x.length ∧ (Lib.cut x [61]).2.1.length ≤ x.length := Plain.cut_sizes x
theorem qry_small {t : ByteArray} (ht : t.size ≤ 1302) : Plain.Small (qryL t) := by
  unfold qryL
  split
  · unfold Plain.told3
    split
    · exact ⟨by simp, fun p hp => by cases hp⟩
    · rename_i h0
      have hz := (cutB_sum t qmark).1
      have hl : (cutB t qmark).2.1.data.toList.length ≤ 1302 := by rw [data_len]; omega
      refine ⟨?_, fun p hp => ?_⟩
      · unfold Pc.parse
        refine Nat.le_trans (pairs_len _) ?_
        rw [Pc.sp_len]
        omega
      · unfold Pc.parse Pc.pairs at hp
        obtain ⟨x, hx, rfl⟩ := List.mem_map.1 hp
        have hxl := Pc.sp_mem 38 _ [] x (List.mem_filter.1 hx).1
        have hc := cut61_le x
        have r1 := Pc.read_len (Lib.cut x [61]).1
        have r2 := Pc.read_len (Lib.cut x [61]).2.1
        simp only [List.length_nil] at hxl
        unfold Pc.pair
        simp only
        omega
  · exact ⟨by simp, fun p hp => by cases hp⟩
theorem fq_size {t : ByteArray} (h : allB shownB t = true) : (fqB t).size ≤ 3 * t.size + 3 := by
  have hs := (cutB_sum t qmark).1
  show (Pc.form (qryL t)).toArray.size ≤ _
  rw [List.size_toArray]
  unfold qryL
  split
  · unfold Plain.told3
    split
    · show (Pc.form []).length ≤ _
      exact Nat.zero_le _
    · have := form_len (l := (cutB t qmark).2.1.data.toList) (fun c hc => (shown_no (allB_iff.1 h c ((path_sub t).2 c hc))).2.2)
      rw [data_len] at this
      exact Nat.le_trans this (by omega)
  · exact Nat.zero_le _
theorem form_is {t : ByteArray} (ht : t.size ≤ 1302) : ∃ k, percent_Form.f k (qryF t).1 = some (fqB t) := by
  obtain ⟨k, hk⟩ := Plain.form_ev (qryL t) (qry_small ht)
  refine ⟨k, ?_⟩
  rw [qry_list]
  exact hk k (Nat.le_refl _)
theorem pairs_q {t bd : ByteArray} {fs : List S67} : (pairsF t bd fs).1 = (qryF t).1 := by
  rw [pairsF_eq]
  split <;> rfl
theorem qry_len {t : ByteArray} (ht : t.size ≤ 1302) : (qryF t).1.length ≤ 1000 := by
  rw [qry_list, List.length_map]
  exact (qry_small ht).1
theorem parseP_len {x : ByteArray} (hx : x.size ≤ 1302) : (parseP x).1.length ≤ 100000 := by
  unfold parseP Plain.told3
  split
  · simp
  · simp only [List.length_map]
    unfold Pc.parse
    refine Nat.le_trans (pairs_len _) ?_
    rw [Pc.sp_len]
    have := List.count_le_length (a := (38 : UInt8)) (l := x.data.toList)
    rw [data_len] at this
    omega
theorem pairs_v {t bd : ByteArray} {fs : List S67} (hb : bd.size ≤ 1302) : (pairsF t bd fs).2.1.length ≤ 100000 := by
  rw [pairsF_eq]
  split
  · exact parseP_len hb
  · exact Nat.zero_le _
theorem cost_len : ∀ fs : List S67, 4 * fs.length ≤ costF fs
  | [] => Nat.le_refl _
  | f :: fs => by
    have := cost_len fs
    show 4 * (fs.length + 1) ≤ f.f0.size + f.f1.size + 4 + costF fs
    omega
theorem cost_each : ∀ fs : List S67, ∀ f ∈ fs, f.f0.size + f.f1.size ≤ costF fs
  | f :: fs, x, hx => by
    show _ ≤ f.f0.size + f.f1.size + 4 + costF fs
    rcases List.mem_cons.1 hx with rfl | hx
    · omega
    · have := cost_each fs x hx
      omega
theorem cost_back (tx : ByteArray) (fs : List S67) (bd : ByteArray) (hx : tx.size ≤ 1000) : costF (backF tx fs bd) ≤ costF fs + 1018 := by
  have e : costF (backF tx fs bd) = costF (bareF fs) + costF (lenF tx bd) := by simp [costF, backF]
  have hb := cost_bare fs
  have h2 : costF (lenF tx bd) ≤ 1018 := by
    unfold lenF
    split
    · exact Nat.zero_le _
    · simp only [costF, List.map_cons, List.map_nil, List.sum_cons, List.sum_nil, clen_size]
      omega
  omega
theorem fit_of {m t tx bd : ByteArray} {fs : List S67} (hm : m.size ≤ 256) (htg : (tgtB t).size ≤ 4000) (hx : tx.size ≤ 1000) (hb : bd.size ≤ 1300) (hc : costF fs ≤ 6000) : FitT m (tgtB t) tx fs bd := by
  have h1 := cost_len fs
  refine ⟨by omega, by omega, by omega, by omega, by omega, fun i hi => ?_⟩
  have := cost_each fs fs[i] (List.getElem_mem hi)
  omega
theorem bad_none {b : ByteArray} (h8 : b.size ≤ 8192) (h : (parseR b).1 ≠ 0) : (parseR b).2 = Rq0 := by
  rw [parse_small h8] at h ⊢
  split
  · rename_i hc
    rw [if_pos hc] at h
    rw [headR_eq] at h ⊢
    cases hx : headX (cutB b crlf2).1 with
    | none => rfl
    | some x =>
      obtain ⟨m, t, fs⟩ := x
      rw [hx] at h
      simp only at h ⊢
      unfold tailR at h ⊢
      split
      · rfl
      · split
        · rfl
        · rename_i h1 h2
          rw [if_neg h1, if_neg h2] at h
          exact absurd rfl h
  · rfl
/-! ### The law of what is read again (3) -/
/-- All that is known of bytes that are a request, and of its text. -/
structure BackA (b : ByteArray) (m p : ByteArray) (q : List S105) (fs f2 : List S67) (bd : ByteArray) (v : List S105) (tx tg fq T : ByteArray) (kf k2 : Nat) : Prop where
  one : parseR b = (0, ⟨m, p, q, fs, bd, v⟩)
  two : parseR T = (0, ⟨m, p, q, f2, bd, v⟩)
  size : T.size ≤ 8192
  bare : bareF f2 = bareF fs
  form : percent_Form.f kf q = some fq
  fqz : fq.size ≤ 10000
  pz : p.size ≤ 10000
  text : ascii_Text.f k2 (bd.size : Int) = some tx
  tgx : tg = tgtV p q fq
  fit : FitT m tg tx fs bd
  fit2 : FitT m tg tx f2 bd
  txt : txtB m tg tx fs bd = T
  txt2 : txtB m tg tx f2 bd = T
  ql : q.length ≤ 100000001
  vl : v.length ≤ 100000001
  fl : fs.length ≤ 1000000
  fl2 : f2.length ≤ 1000000
theorem back_all {b : ByteArray} (hb : b.size ≤ 1300) (h : (parseR b).1 = 0) : ∃ m p q fs f2 bd v tx tg fq T kf k2, BackA b m p q fs f2 bd v tx tg fq T kf k2 := by
  obtain ⟨hc, m, t, fs, hX, hT, hP⟩ := parse_ok (by omega) h
  have hz : (restR b ((cutB b crlf2).1.size + 4)).size ≤ 1300 := Nat.le_trans (restR_size _ _) hb
  obtain ⟨x1, x2, x3, x4, k2, x5⟩ := tx_facts hz
  obtain ⟨z1, z2, hF⟩ := back_parse hb hc hX hT x1 x2 x3 (fun _ => x4)
  obtain ⟨t1, t2, t3, t4⟩ := tail_ok hT
  generalize hbd : restR b ((cutB b crlf2).1.size + 4) = bd at *
  generalize strOfNums (Plain.padded (bd.size : Int) 1) = tx at *
  obtain ⟨kf, hkf⟩ := form_is hF.tz
  have hpz := (cutB_sum t qmark).1
  have hcl := cost_len fs
  have hcb := cost_back tx fs bd x3
  have hcl2 := cost_len (backF tx fs bd)
  have hc1 := hF.cost
  have htz := hF.tz
  have htx := txtB_data (m := m) (t := t) (tx := tx) (bd := bd) hF.good
  have hfq := fq_size hF.shown
  have hql := qry_len hF.tz
  have hvl := pairs_v (t := t) (bd := bd) (fs := fs) (by omega)
  refine ⟨m, (cutB t qmark).1, (pairsF t bd fs).1, fs, backF tx fs bd, bd, (pairsF t bd fs).2.1, tx, tgtB t, fqB t, ⟨(textD m t tx fs bd).toArray⟩, kf, k2, ?_⟩
  exact {
    one := by rw [hP, t4]
    two := z2
    size := by show (textD m t tx fs bd).toArray.size ≤ _; rw [List.size_toArray]; exact z1
    bare := bare_back tx fs bd
    form := by rw [pairs_q]; exact hkf
    fqz := by omega
    pz := by omega
    text := x5
    tgx := by rw [pairs_q]; rfl
    fit := fit_of hF.mz hF.tgz x3 hF.bz (by first | (show costF fs ≤ 6000; omega) | (show costF (backF tx fs bd) ≤ 6000; omega))
    fit2 := fit_of hF.mz hF.tgz x3 hF.bz (by first | (show costF fs ≤ 6000; omega) | (show costF (backF tx fs bd) ≤ 6000; omega))
    txt := htx
    txt2 := by rw [txt_again hF x1 x2]; exact htx
    ql := by rw [pairs_q]; omega
    vl := by omega
    fl := by omega
    fl2 := by omega }
structure Lie (q : List S105) (f : List S67) (v : List S105) (Aq : Option Addr) (cq : Nat) (Af : Option Addr) (cf : Nat) (Am : Option Addr) (cm : Nat) (w : World) : Prop where
  lq : Kd.C k105 w Aq q.length q
  lqc : q.length ≤ cq
  lf : Kd.C k67 w Af f.length f
  lfc : f.length ≤ cf
  lv : Kd.C k105 w Am v.length v
  lvc : v.length ≤ cm
theorem Lie.below {q : List S105} {f : List S67} {v : List S105} {Aq Af Am : Option Addr} {cq cf cm : Nat} {w w' : World} (h : Lie q f v Aq cq Af cf Am cm w) (hb : Below w.heap.size w w') : Lie q f v Aq cq Af cf Am cm w' := ⟨Kd.C_below h.lq hb, h.lqc, Kd.C_below h.lf hb, h.lfc, Kd.C_below h.lv hb, h.lvc⟩
structure LieD (q : List S84) (f : List S38) (v : List S84) (Aq : Option Addr) (cq : Nat) (Af : Option Addr) (cf : Nat) (Am : Option Addr) (cm : Nat) (w : World) : Prop where
  lq : Kd.C k84 w Aq q.length q
  lqc : q.length ≤ cq
  lf : Kd.C k38 w Af f.length f
  lfc : f.length ≤ cf
  lv : Kd.C k84 w Am v.length v
  lvc : v.length ≤ cm
theorem LieD.below {q : List S84} {f : List S38} {v : List S84} {Aq Af Am : Option Addr} {cq cf cm : Nat} {w w' : World} (h : LieD q f v Aq cq Af cf Am cm w) (hb : Below w.heap.size w w') : LieD q f v Aq cq Af cf Am cm w' := ⟨Kd.C_below h.lq hb, h.lqc, Kd.C_below h.lf hb, h.lfc, Kd.C_below h.lv hb, h.lvc⟩
theorem p_told.calls {m p bd : ByteArray} {q : List S105} {f : List S67} {v : List S105} {Aq Af Am : Option Addr} {cq cf cm : Nat} {w : World} (h : Lie q f v Aq cq Af cf Am cm w) (h1 : q.length ≤ 100000001) (h2 : v.length ≤ 100000001) (h3 : f.length ≤ 1000000) :
    Calls Tryz.prog 8 #[.agg #[.string m, .string p, .slice Aq q.length cq, .slice Af f.length cf, .string bd, .slice Am v.length cm]] w fun e w' => ∃ Aq' cq' Af' cf' Am' cm', e = .returned (.agg #[.string m, .string p, .slice Aq' (q.map d84).length cq', .slice Af' (f.map d38).length cf', .string bd, .slice Am' (v.map d84).length cm']) ∧ LieD (q.map d84) (f.map d38) (v.map d84) Aq' cq' Af' cf' Am' cm' w' ∧ Below w.heap.size w w' := by
  obtain ⟨k, hk⟩ := told_ev ⟨m, p, q, f, bd, v⟩ h1 h2 (by show f.length ≤ _; omega)
  refine (cringlelaw29_told.calls k m p Aq cq q Af cf f bd Am cm v m p (q.map d84) (f.map d38) bd (v.map d84) w h.lq h.lqc h.lf h.lfc h.lv h.lvc (hk k (Nat.le_refl _))).mono ?_
  rintro e w' ⟨v2, v3, v5, rfl, r2, r3, r5, hb⟩
  obtain ⟨A2, c2, rfl⟩ := Kd.R_slice r2
  obtain ⟨A3, c3, rfl⟩ := Kd.R_slice r3
  obtain ⟨A5, c5, rfl⟩ := Kd.R_slice r5
  exact ⟨A2, c2, A3, c3, A5, c5, rfl, ⟨(Kd.R_reads' r2).2.2, (Kd.R_reads' r2).2.1, (Kd.R_reads' r3).2.2, (Kd.R_reads' r3).2.1, (Kd.R_reads' r5).2.2, (Kd.R_reads' r5).2.1⟩, hb⟩
theorem p_SameR.calls {m p bd : ByteArray} {q v : List S84} {f : List S38} {Aq Af Am Bq Bf Bm : Option Addr} {cq cf cm dq df dm : Nat} {w : World} (h : LieD q f v Aq cq Af cf Am cm w) (g : LieD q f v Bq dq Bf df Bm dm w) (h1 : q.length ≤ 100000001) (h2 : v.length ≤ 100000001) (h3 : f.length ≤ 100000001) :
    Calls Tryz.prog 7 #[.agg #[.string m, .string p, .slice Aq q.length cq, .slice Af f.length cf, .string bd, .slice Am v.length cm], .agg #[.string m, .string p, .slice Bq q.length dq, .slice Bf f.length df, .string bd, .slice Bm v.length dm]] w fun e w' => e = .returned (.bool true) ∧ Below w.heap.size w w' := by
  obtain ⟨k, hk⟩ := same_ev m p q v f bd h1 h2 h3
  exact cringleref29_Same.calls k m p Aq cq q Af cf f bd Am cm v m p Bq dq q Bf df f bd Bm dm v true w h.lq h.lqc h.lf h.lfc h.lv h.lvc g.lq g.lqc g.lf g.lfc g.lv g.lvc (hk k (Nat.le_refl _))
theorem bare_len (fs : List S38) : (bareD fs).length ≤ fs.length := List.length_filter_le _ _
/-- A call of a function that a variable holds, by its contract. -/
theorem goesT_ {P : Program} {ops : Array Oper} {Q : Exit → Act → World → Prop} {oi : Oper} {N : Option Tmp} {a : Act} {w : World} {K : Act → World → Prop} {f : FuncId} {fn : Func} {k : Operand} {xs : Array Operand} {ts : Array TypeId} (hf : P.funcs[f]? = some fn) (hname : (fn.name == "runtime.NumGoroutine") = false) (hb : fn.body.isSome = true) (args : Array Value)
    (hw : Region.wanted oi (yielded ops a.tmps) = true) (hN : oi.dst = N) (hop : oi.op = .call { callee := .value k, args := xs, argTypes := ts }) (hk : a.eval k = .func (.func f) #[] #[]) (hargs : xs.map a.eval = args)
    (h : Calls P f args w fun e w' => ∃ v, e = .returned v ∧ K (a.put N v) w') : if Region.wanted oi (yielded ops a.tmps) = true then Oper.wp P oi a w K Q else K (a.put N undef) w := by
  refine call_ f args hw hN ?_ h
  have he := enters_ hf hname hb args w
  unfold execOp
  simp [hop, resolve, hk, Deferred.ofValue, invoke, hargs, he]
theorem same_two {m p bd : ByteArray} {q v : List S105} {fs f2 : List S67} {Aq Af Am Bq Bf Bm : Option Addr} {cq cf cm dq df dm : Nat} {w : World} (hb : bareF f2 = bareF fs) (h : LieD (q.map d84) (bareD (fs.map d38)) (v.map d84) Aq cq Af cf Am cm w) (g : LieD (q.map d84) (bareD (f2.map d38)) (v.map d84) Bq dq Bf df Bm dm w) (h1 : q.length ≤ 100000001) (h2 : v.length ≤ 100000001) (h3 : fs.length ≤ 1000000) :
    Calls Tryz.prog 7 #[.agg #[.string m, .string p, .slice Aq (q.map d84).length cq, .slice Af (bareD (fs.map d38)).length cf, .string bd, .slice Am (v.map d84).length cm], .agg #[.string m, .string p, .slice Bq (q.map d84).length dq, .slice Bf (bareD (f2.map d38)).length df, .string bd, .slice Bm (v.map d84).length dm]] w fun e w' => e = .returned (.bool true) ∧ Below w.heap.size w w' := by
  have e : bareD (f2.map d38) = bareD (fs.map d38) := by rw [bareD_map, bareD_map, hb]
  rw [e] at g ⊢
  have := bare_len (fs.map d38)
  rw [List.length_map] at this
  exact p_SameR.calls h g (by rw [List.length_map]; exact h1) (by rw [List.length_map]; exact h2) (by omega)
set_option maxHeartbeats 8000000 in
theorem law_Back.calls {w : World} (hT : Tabs w) (b : ByteArray) : Calls Tryz.prog 3 #[.string b] w fun e w' => e = .returned (.bool true) ∧ Below w.heap.size w w' := by
  by_cases hb : b.size ≤ 1300
  · have hb' : decide ((b.size : Int) > 1300) = false := decide_eq_false (by omega)
    have hp := p_ParseR.calls hT b (by omega)
    by_cases h0 : (parseR b).1 = 0
    · obtain ⟨m, p, q, fs, f2, bd, v, tx, tg, fq, T, kf, k2, hA⟩ := back_all hb h0
      rw [hA.one] at hp
      have HA := Aside0.mk hA
      have HT := Aside0.mk hT
      have HPT := Aside0.mk (fun W (hT : Tabs W) => p_ParseR.calls hT T (Nat.le_trans hA.size (show 8192 ≤ 100000 by decide)))
      rw [hA.two] at HPT
      clear hb h0 hA hT
      go_enter Tryz.func3, Tryz.ntmps3
      go_wp2_with fail
      refine hp.mono ?_
      rintro e w2 ⟨Aq, cq, Af, cf, Am, cm, rfl, hq, hf, hm, hb2⟩
      have HL2 := Aside0.mk (show Lie q fs v Aq cq Af cf Am cm w2 from ⟨(Kd.R_reads' hq).2.2, (Kd.R_reads' hq).2.1, (Kd.R_reads' hf).2.2, (Kd.R_reads' hf).2.1, (Kd.R_reads' hm).2.2, (Kd.R_reads' hm).2.1⟩)
      obtain ⟨W3, hW3⟩ : ∃ W, W = w2.alloc (.cells #[.string m, .string p, .slice Aq q.length cq, .slice Af fs.length cf, .string bd, .slice Am v.length cm] 26) := ⟨_, rfl⟩
      have hb3 : Below w2.heap.size w2 W3 := hW3 ▸ below_alloc (Below.refl _ _) _
      have HB3 := Aside0.mk (below_step hb2 hb3)
      have HL3 := Aside0.mk (HL2.out.below hb3)
      have HA3 := Aside0.mk (show Blk.At w2.heap.size #[.string m, .string p, .slice Aq q.length cq, .slice Af fs.length cf, .string bd, .slice Am v.length cm] 26 W3 from hW3 ▸ Blk.At.new w2 _ _)
      have x0 : W3.cell? ⟨w2.heap.size, 0, none⟩ = some (.string m) := HA3.out.cell 0
      have x1 : W3.cell? ⟨w2.heap.size, 1, none⟩ = some (.string p) := HA3.out.cell 1
      have x2 : W3.cell? ⟨w2.heap.size, 2, none⟩ = some (.slice Aq q.length cq) := HA3.out.cell 2
      have x3 : W3.cell? ⟨w2.heap.size, 3, none⟩ = some (.slice Af fs.length cf) := HA3.out.cell 3
      have x4 : W3.cell? ⟨w2.heap.size, 4, none⟩ = some (.string bd) := HA3.out.cell 4
      have x5 : W3.cell? ⟨w2.heap.size, 5, none⟩ = some (.slice Am v.length cm) := HA3.out.cell 5
      have htx := p_Text.calls (m := m) (p := p) (Am := Am) (nm := v.length) (cm := cm) (c := cf) (HT.out.below HB3.out) HL3.out.lf HL3.out.lq HL3.out.lqc HA.out.form HA.out.fqz HA.out.pz HA.out.text HA.out.tgx HA.out.fit
      rw [HA.out.txt] at htx
      generalize hg3 : w2.heap.size = g3 at *
      replace hW3 := hW3.symm
      clear hq hf hm hb2 hb3 hp HL2
      go_wp2_with fail
      refine htx.mono ?_
      rintro e w4 ⟨rfl, hb⟩
      have HB4 := Aside0.mk (below_step HB3.out hb)
      have HL4 := Aside0.mk (HL3.out.below hb)
      have HA4 := Aside0.mk (HA3.out.below hb HA3.out.lt)
      have hpt := HPT.out w4 (HT.out.below HB4.out)
      clear hb htx HB3 HL3 HA3 x0 x1 x2 x3 x4 x5
      go_wp2_with fail
      refine hpt.mono ?_
      rintro e w5 ⟨Bq, dq, Bf, df, Bm, dm, rfl, hq, hf, hm, hb⟩
      have HB5 := Aside0.mk (below_step HB4.out hb)
      have HL5 := Aside0.mk (HL4.out.below hb)
      have HA5 := Aside0.mk (HA4.out.below hb HA4.out.lt)
      have HM5 := Aside0.mk (show Lie q f2 v Bq dq Bf df Bm dm w5 from ⟨(Kd.R_reads' hq).2.2, (Kd.R_reads' hq).2.1, (Kd.R_reads' hf).2.2, (Kd.R_reads' hf).2.1, (Kd.R_reads' hm).2.2, (Kd.R_reads' hm).2.1⟩)
      obtain ⟨W6, hW6⟩ : ∃ W, W = w5.alloc (.cells #[.string m, .string p, .slice Bq q.length dq, .slice Bf f2.length df, .string bd, .slice Bm v.length dm] 26) := ⟨_, rfl⟩
      have hb6 : Below w5.heap.size w5 W6 := hW6 ▸ below_alloc (Below.refl _ _) _
      have HB6 := Aside0.mk (below_step HB5.out hb6)
      have HL6 := Aside0.mk (HL5.out.below hb6)
      have HA6 := Aside0.mk (HA5.out.below hb6 HA5.out.lt)
      have HM6 := Aside0.mk (HM5.out.below hb6)
      have HC6 := Aside0.mk (show Blk.At w5.heap.size #[.string m, .string p, .slice Bq q.length dq, .slice Bf f2.length df, .string bd, .slice Bm v.length dm] 26 W6 from hW6 ▸ Blk.At.new w5 _ _)
      generalize hg6 : w5.heap.size = g6 at *
      replace hW6 := hW6.symm
      clear hq hf hm hb hb6 hpt HB4 HL4 HA4 HB5 HL5 HA5 HM5 HPT
      have x0 : W6.cell? ⟨g3, 0, none⟩ = some (.string m) := HA6.out.cell 0
      have x1 : W6.cell? ⟨g3, 1, none⟩ = some (.string p) := HA6.out.cell 1
      have x2 : W6.cell? ⟨g3, 2, none⟩ = some (.slice Aq q.length cq) := HA6.out.cell 2
      have x3 : W6.cell? ⟨g3, 3, none⟩ = some (.slice Af fs.length cf) := HA6.out.cell 3
      have x4 : W6.cell? ⟨g3, 4, none⟩ = some (.string bd) := HA6.out.cell 4
      have x5 : W6.cell? ⟨g3, 5, none⟩ = some (.slice Am v.length cm) := HA6.out.cell 5
      have y0 : W6.cell? ⟨g6, 0, none⟩ = some (.string m) := HC6.out.cell 0
      have y1 : W6.cell? ⟨g6, 1, none⟩ = some (.string p) := HC6.out.cell 1
      have y2 : W6.cell? ⟨g6, 2, none⟩ = some (.slice Bq q.length dq) := HC6.out.cell 2
      have y3 : W6.cell? ⟨g6, 3, none⟩ = some (.slice Bf f2.length df) := HC6.out.cell 3
      have y4 : W6.cell? ⟨g6, 4, none⟩ = some (.string bd) := HC6.out.cell 4
      have y5 : W6.cell? ⟨g6, 5, none⟩ = some (.slice Bm v.length dm) := HC6.out.cell 5
      go_wp2_with fail
      refine start_ (n := 20) (S := fun w' => w'.cell? ⟨g3, 0, none⟩ = some (.string m) ∧ w'.cell? ⟨g3, 1, none⟩ = some (.string p) ∧ w'.cell? ⟨g3, 2, none⟩ = some (.slice Aq q.length cq) ∧ w'.cell? ⟨g3, 3, none⟩ = some (.slice Af fs.length cf) ∧ w'.cell? ⟨g3, 4, none⟩ = some (.string bd) ∧ w'.cell? ⟨g3, 5, none⟩ = some (.slice Am v.length cm) ∧ w'.cell? ⟨g6, 0, none⟩ = some (.string m) ∧ w'.cell? ⟨g6, 1, none⟩ = some (.string p) ∧ w'.cell? ⟨g6, 2, none⟩ = some (.slice Bq q.length dq) ∧ w'.cell? ⟨g6, 3, none⟩ = some (.slice Bf f2.length df) ∧ w'.cell? ⟨g6, 4, none⟩ = some (.string bd) ∧ w'.cell? ⟨g6, 5, none⟩ = some (.slice Bm v.length dm)) (ds := []) #[false, false, false, false, false, false, false, false, false, false, false, false, false, false, false, false, false, false, false, false] (by kernel_rfl) rfl rfl ⟨x0, x1, x2, x3, x4, x5, y0, y1, y2, y3, y4, y5⟩ (fun hHeld => ?_)
      refine pure_ (i := 0) (N := some 34) (v := ?_) (a' := ?_) #[true, false, false, false, false, false, false, false, false, false, false, false, false, false, false, false, false, false, false, false] rfl rfl (by kernel_rfl) (fun _ _ _ h => h) (Or.inl ⟨by rfl, ?_⟩) ?_ ?_
      rotate_left
      · intro w'
        go_simp
        with_reducible rfl
      rotate_left
      · simp only [Act.put, List.setIfInBounds_toArray, List.set_cons_zero, List.set_cons_succ, i64_w, i32_w]
        rfl
      refine pure_ (i := 4) (N := some 38) (v := ?_) (a' := ?_) #[true, false, false, false, true, false, false, false, false, false, false, false, false, false, false, false, false, false, false, false] rfl rfl (by kernel_rfl) (fun _ _ _ h => h) (Or.inl ⟨by rfl, ?_⟩) ?_ ?_
      rotate_left
      · intro w'
        go_simp
        with_reducible rfl
      rotate_left
      · simp only [Act.put, List.setIfInBounds_toArray, List.set_cons_zero, List.set_cons_succ, i64_w, i32_w]
        rfl
      refine take_ (i := 1) (N := some 35) (v := ?_) (a' := ?_) #[true, true, false, false, true, false, false, false, false, false, false, false, false, false, false, false, false, false, false, false] rfl rfl (by kernel_rfl) (fun _ _ _ h => h) (Or.inl ⟨by rfl, ?_⟩) hHeld ?_ ?_
      rotate_left
      · rintro w' ⟨s0, s1, s2, s3, s4, s5, s6, s7, s8, s9, s10, s11⟩
        go_simp
        with_reducible rfl
      rotate_left
      · simp only [Act.put, List.setIfInBounds_toArray, List.set_cons_zero, List.set_cons_succ, i64_w, i32_w]
        rfl
      refine take_ (i := 5) (N := some 39) (v := ?_) (a' := ?_) #[true, true, false, false, true, true, false, false, false, false, false, false, false, false, false, false, false, false, false, false] rfl rfl (by kernel_rfl) (fun _ _ _ h => h) (Or.inl ⟨by rfl, ?_⟩) hHeld ?_ ?_
      rotate_left
      · rintro w' ⟨s0, s1, s2, s3, s4, s5, s6, s7, s8, s9, s10, s11⟩
        go_simp
        with_reducible rfl
      rotate_left
      · simp only [Act.put, List.setIfInBounds_toArray, List.set_cons_zero, List.set_cons_succ, i64_w, i32_w]
        rfl
      refine one_ (i := 2) (N := some 36) #[true, true, true, false, true, true, false, false, false, false, false, false, false, false, false, false, false, false, false, false] rfl rfl (by kernel_rfl) (by decide) (fun K hK => ?_)
      refine goes_ Tryz.func8 (by kernel_rfl) rfl #[.agg #[.string m, .string p, .slice Aq q.length cq, .slice Af fs.length cf, .string bd, .slice Am v.length cm]] (by rfl) rfl rfl (by simp only [List.map_toArray, List.map_cons, List.map_nil]; rfl) ?_
      with_reducible refine (p_told.calls (HL6.out.below (below_drew (Below.refl _ W6))) HA.out.ql HA.out.vl HA.out.fl).mono ?_
      rintro e w7 ⟨Cq, eq_, Cf, ef_, Cm, em_, rfl, hl_, hb_⟩
      refine ⟨_, rfl, ?_⟩
      have HB7 := Aside0.mk (below_step (below_step HB6.out (below_drew (Below.refl _ W6))) hb_)
      have HL7 := Aside0.mk ((HL6.out.below (below_drew (Below.refl _ W6))).below hb_)
      have HM7 := Aside0.mk ((HM6.out.below (below_drew (Below.refl _ W6))).below hb_)
      have HA7 := Aside0.mk (HA6.out.below ((below_drew (Below.refl W6.heap.size W6)).trans hb_) HA6.out.lt)
      have HC7 := Aside0.mk (HC6.out.below ((below_drew (Below.refl W6.heap.size W6)).trans hb_) HC6.out.lt)
      clear hb_ HB6 HL6 HA6 HM6 HC6 
      have HD7 := Aside0.mk hl_
      clear hl_
      refine hK.out _ _ ⟨HA7.out.cell 0, HA7.out.cell 1, HA7.out.cell 2, HA7.out.cell 3, HA7.out.cell 4, HA7.out.cell 5, HC7.out.cell 0, HC7.out.cell 1, HC7.out.cell 2, HC7.out.cell 3, HC7.out.cell 4, HC7.out.cell 5⟩ (fun hHeld => ?_)
      clear hK K
      refine norm_ (a' := ?_) ?_ ?_
      rotate_left
      · show Act.put _ (some 36) _ = _
        simp only [Act.put, List.setIfInBounds_toArray, List.set_cons_zero, List.set_cons_succ, i64_w, i32_w]
        rfl
      refine one_ (i := 3) (N := some 37) #[true, true, true, true, true, true, false, false, false, false, false, false, false, false, false, false, false, false, false, false] rfl rfl (by kernel_rfl) (by decide) (fun K hK => ?_)
      refine goesT_ Tryz.func10 (by kernel_rfl) rfl #[.agg #[.string m, .string p, .slice Cq (q.map d84).length eq_, .slice Cf (fs.map d38).length ef_, .string bd, .slice Cm (v.map d84).length em_]] (by rfl) rfl rfl rfl (by simp only [List.map_toArray, List.map_cons, List.map_nil]; rfl) ?_
      with_reducible refine (p_bare.calls HD7.out.lf (by rw [List.length_map]; exact HA.out.fl)).mono ?_
      rintro e w8 ⟨Df, gf_, rfl, hr_, hb_⟩
      refine ⟨_, rfl, ?_⟩
      have HD8 := Aside0.mk (HD7.out.below hb_)
      have HR8 := Aside0.mk (show LieD (q.map d84) (bareD (fs.map d38)) (v.map d84) Cq eq_ Df gf_ Cm em_ w8 from ⟨HD8.out.lq, HD8.out.lqc, (Kd.R_reads' hr_).2.2, (Kd.R_reads' hr_).2.1, HD8.out.lv, HD8.out.lvc⟩)
      clear hr_ HD7 HD8
      have HB8 := Aside0.mk (below_step HB7.out hb_)
      have HL8 := Aside0.mk (HL7.out.below hb_)
      have HM8 := Aside0.mk (HM7.out.below hb_)
      have HA8 := Aside0.mk (HA7.out.below hb_ HA7.out.lt)
      have HC8 := Aside0.mk (HC7.out.below hb_ HC7.out.lt)
      clear hb_ HB7 HL7 HA7 HM7 HC7 
      refine hK.out _ _ ⟨HA8.out.cell 0, HA8.out.cell 1, HA8.out.cell 2, HA8.out.cell 3, HA8.out.cell 4, HA8.out.cell 5, HC8.out.cell 0, HC8.out.cell 1, HC8.out.cell 2, HC8.out.cell 3, HC8.out.cell 4, HC8.out.cell 5⟩ (fun hHeld => ?_)
      clear hK K
      refine norm_ (a' := ?_) ?_ ?_
      rotate_left
      · show Act.put _ (some 37) _ = _
        simp only [Act.put, List.setIfInBounds_toArray, List.set_cons_zero, List.set_cons_succ, i64_w, i32_w]
        rfl
      refine one_ (i := 6) (N := some 40) #[true, true, true, true, true, true, true, false, false, false, false, false, false, false, false, false, false, false, false, false] rfl rfl (by kernel_rfl) (by decide) (fun K hK => ?_)
      refine goes_ Tryz.func8 (by kernel_rfl) rfl #[.agg #[.string m, .string p, .slice Bq q.length dq, .slice Bf f2.length df, .string bd, .slice Bm v.length dm]] (by rfl) rfl rfl (by simp only [List.map_toArray, List.map_cons, List.map_nil]; rfl) ?_
      with_reducible refine (p_told.calls HM8.out HA.out.ql HA.out.vl HA.out.fl2).mono ?_
      rintro e w9 ⟨Eq, hq_, Ef, hf_, Em, hm_, rfl, hl_, hb_⟩
      refine ⟨_, rfl, ?_⟩
      have HD9 := Aside0.mk hl_
      have HR9 := Aside0.mk (HR8.out.below hb_)
      clear hl_ HR8
      have HB9 := Aside0.mk (below_step HB8.out hb_)
      have HL9 := Aside0.mk (HL8.out.below hb_)
      have HM9 := Aside0.mk (HM8.out.below hb_)
      have HA9 := Aside0.mk (HA8.out.below hb_ HA8.out.lt)
      have HC9 := Aside0.mk (HC8.out.below hb_ HC8.out.lt)
      clear hb_ HB8 HL8 HA8 HM8 HC8 
      refine hK.out _ _ ⟨HA9.out.cell 0, HA9.out.cell 1, HA9.out.cell 2, HA9.out.cell 3, HA9.out.cell 4, HA9.out.cell 5, HC9.out.cell 0, HC9.out.cell 1, HC9.out.cell 2, HC9.out.cell 3, HC9.out.cell 4, HC9.out.cell 5⟩ (fun hHeld => ?_)
      clear hK K
      refine norm_ (a' := ?_) ?_ ?_
      rotate_left
      · show Act.put _ (some 40) _ = _
        simp only [Act.put, List.setIfInBounds_toArray, List.set_cons_zero, List.set_cons_succ, i64_w, i32_w]
        rfl
      refine one_ (i := 7) (N := some 41) #[true, true, true, true, true, true, true, true, false, false, false, false, false, false, false, false, false, false, false, false] rfl rfl (by kernel_rfl) (by decide) (fun K hK => ?_)
      refine goesT_ Tryz.func10 (by kernel_rfl) rfl #[.agg #[.string m, .string p, .slice Eq (q.map d84).length hq_, .slice Ef (f2.map d38).length hf_, .string bd, .slice Em (v.map d84).length hm_]] (by rfl) rfl rfl rfl (by simp only [List.map_toArray, List.map_cons, List.map_nil]; rfl) ?_
      with_reducible refine (p_bare.calls HD9.out.lf (by rw [List.length_map]; exact HA.out.fl2)).mono ?_
      rintro e w10 ⟨Ff, kf_, rfl, hr_, hb_⟩
      refine ⟨_, rfl, ?_⟩
      have HD10 := Aside0.mk (HD9.out.below hb_)
      have HR10 := Aside0.mk (HR9.out.below hb_)
      have HS10 := Aside0.mk (show LieD (q.map d84) (bareD (f2.map d38)) (v.map d84) Eq hq_ Ff kf_ Em hm_ w10 from ⟨HD10.out.lq, HD10.out.lqc, (Kd.R_reads' hr_).2.2, (Kd.R_reads' hr_).2.1, HD10.out.lv, HD10.out.lvc⟩)
      clear hr_ HD9 HD10 HR9
      have HSM10 := Aside0.mk (same_two HA.out.bare HR10.out HS10.out HA.out.ql HA.out.vl HA.out.fl (m := m) (p := p) (bd := bd))
      clear HR10 HS10
      have HB10 := Aside0.mk (below_step HB9.out hb_)
      have HL10 := Aside0.mk (HL9.out.below hb_)
      have HM10 := Aside0.mk (HM9.out.below hb_)
      have HA10 := Aside0.mk (HA9.out.below hb_ HA9.out.lt)
      have HC10 := Aside0.mk (HC9.out.below hb_ HC9.out.lt)
      clear hb_ HB9 HL9 HA9 HM9 HC9 
      refine hK.out _ _ ⟨HA10.out.cell 0, HA10.out.cell 1, HA10.out.cell 2, HA10.out.cell 3, HA10.out.cell 4, HA10.out.cell 5, HC10.out.cell 0, HC10.out.cell 1, HC10.out.cell 2, HC10.out.cell 3, HC10.out.cell 4, HC10.out.cell 5⟩ (fun hHeld => ?_)
      clear hK K
      refine norm_ (a' := ?_) ?_ ?_
      rotate_left
      · show Act.put _ (some 41) _ = _
        simp only [Act.put, List.setIfInBounds_toArray, List.set_cons_zero, List.set_cons_succ, i64_w, i32_w]
        rfl
      refine one_ (i := 8) (N := some 42) #[true, true, true, true, true, true, true, true, true, false, false, false, false, false, false, false, false, false, false, false] rfl rfl (by kernel_rfl) (by decide) (fun K hK => ?_)
      refine goes_ Tryz.func7 (by kernel_rfl) rfl #[.agg #[.string m, .string p, .slice Cq (q.map d84).length eq_, .slice Df (bareD (fs.map d38)).length gf_, .string bd, .slice Cm (v.map d84).length em_], .agg #[.string m, .string p, .slice Eq (q.map d84).length hq_, .slice Ff (bareD (f2.map d38)).length kf_, .string bd, .slice Em (v.map d84).length hm_]] (by rfl) rfl rfl (by simp only [List.map_toArray, List.map_cons, List.map_nil]; rfl) ?_
      with_reducible refine (HSM10.out).mono ?_
      rintro e w11 ⟨rfl, hb_⟩
      refine ⟨_, rfl, ?_⟩
      clear HSM10
      have HB11 := Aside0.mk (below_step HB10.out hb_)
      have HL11 := Aside0.mk (HL10.out.below hb_)
      have HM11 := Aside0.mk (HM10.out.below hb_)
      have HA11 := Aside0.mk (HA10.out.below hb_ HA10.out.lt)
      have HC11 := Aside0.mk (HC10.out.below hb_ HC10.out.lt)
      clear hb_ HB10 HL10 HA10 HM10 HC10 
      refine hK.out _ _ ⟨HA11.out.cell 0, HA11.out.cell 1, HA11.out.cell 2, HA11.out.cell 3, HA11.out.cell 4, HA11.out.cell 5, HC11.out.cell 0, HC11.out.cell 1, HC11.out.cell 2, HC11.out.cell 3, HC11.out.cell 4, HC11.out.cell 5⟩ (fun hHeld => ?_)
      clear hK K
      refine norm_ (a' := ?_) ?_ ?_
      rotate_left
      · show Act.put _ (some 42) _ = _
        simp only [Act.put, List.setIfInBounds_toArray, List.set_cons_zero, List.set_cons_succ, i64_w, i32_w]
        rfl
      refine pure_ (i := 9) (N := some 43) (v := ?_) (a' := ?_) #[true, true, true, true, true, true, true, true, true, true, false, false, false, false, false, false, false, false, false, false] rfl rfl (by kernel_rfl) (fun _ _ _ h => h) (Or.inl ⟨by rfl, ?_⟩) ?_ ?_
      rotate_left
      · intro w'
        go_simp
        with_reducible rfl
      rotate_left
      · simp only [Act.put, List.setIfInBounds_toArray, List.set_cons_zero, List.set_cons_succ, i64_w, i32_w]
        rfl
      refine take_ (i := 10) (N := some 44) (v := ?_) (a' := ?_) #[true, true, true, true, true, true, true, true, true, true, true, false, false, false, false, false, false, false, false, false] rfl rfl (by kernel_rfl) (fun _ _ _ h => h) (Or.inl ⟨by rfl, ?_⟩) hHeld ?_ ?_
      rotate_left
      · rintro w' ⟨s0, s1, s2, s3, s4, s5, s6, s7, s8, s9, s10, s11⟩
        go_simp
        with_reducible rfl
      rotate_left
      · simp only [Act.put, List.setIfInBounds_toArray, List.set_cons_zero, List.set_cons_succ, i64_w, i32_w]
        rfl
      refine take_ (i := 12) (N := some 46) (v := ?_) (a' := ?_) #[true, true, true, true, true, true, true, true, true, true, true, false, true, false, false, false, false, false, false, false] rfl rfl (by kernel_rfl) (fun _ _ _ h => h) (Or.inl ⟨by rfl, ?_⟩) hHeld ?_ ?_
      rotate_left
      · rintro w' ⟨s0, s1, s2, s3, s4, s5, s6, s7, s8, s9, s10, s11⟩
        go_simp
        with_reducible rfl
      rotate_left
      · simp only [Act.put, List.setIfInBounds_toArray, List.set_cons_zero, List.set_cons_succ, i64_w, i32_w]
        rfl
      refine one_ (i := 11) (N := some 45) #[true, true, true, true, true, true, true, true, true, true, true, true, true, false, false, false, false, false, false, false] rfl rfl (by kernel_rfl) (by decide) (fun K hK => ?_)
      refine goes_ Tryz.func9 (by kernel_rfl) rfl #[.agg #[.string m, .string p, .slice Bq q.length dq, .slice Bf f2.length df, .string bd, .slice Bm v.length dm]] (by rfl) rfl rfl (by simp only [List.map_toArray, List.map_cons, List.map_nil]; rfl) ?_
      with_reducible refine ((p_Text.calls (m := m) (p := p) (Am := Bm) (nm := v.length) (cm := dm) (c := df) (HT.out.below HB11.out) HM11.out.lf HM11.out.lq HM11.out.lqc HA.out.form HA.out.fqz HA.out.pz HA.out.text HA.out.tgx HA.out.fit2)).mono ?_
      rintro e w12 ⟨rfl, hb_⟩
      refine ⟨_, rfl, ?_⟩
      rw [HA.out.txt2]
      have HB12 := Aside0.mk (below_step HB11.out hb_)
      have HL12 := Aside0.mk (HL11.out.below hb_)
      have HM12 := Aside0.mk (HM11.out.below hb_)
      have HA12 := Aside0.mk (HA11.out.below hb_ HA11.out.lt)
      have HC12 := Aside0.mk (HC11.out.below hb_ HC11.out.lt)
      clear hb_ HB11 HL11 HA11 HM11 HC11 
      refine hK.out _ _ ⟨HA12.out.cell 0, HA12.out.cell 1, HA12.out.cell 2, HA12.out.cell 3, HA12.out.cell 4, HA12.out.cell 5, HC12.out.cell 0, HC12.out.cell 1, HC12.out.cell 2, HC12.out.cell 3, HC12.out.cell 4, HC12.out.cell 5⟩ (fun hHeld => ?_)
      clear hK K
      refine norm_ (a' := ?_) ?_ ?_
      rotate_left
      · show Act.put _ (some 45) _ = _
        simp only [Act.put, List.setIfInBounds_toArray, List.set_cons_zero, List.set_cons_succ, i64_w, i32_w]
        rfl
      refine one_ (i := 13) (N := some 47) #[true, true, true, true, true, true, true, true, true, true, true, true, true, true, false, false, false, false, false, false] rfl rfl (by kernel_rfl) (by decide) (fun K hK => ?_)
      refine goes_ Tryz.func9 (by kernel_rfl) rfl #[.agg #[.string m, .string p, .slice Aq q.length cq, .slice Af fs.length cf, .string bd, .slice Am v.length cm]] (by rfl) rfl rfl (by simp only [List.map_toArray, List.map_cons, List.map_nil]; rfl) ?_
      with_reducible refine ((p_Text.calls (m := m) (p := p) (Am := Am) (nm := v.length) (cm := cm) (c := cf) (HT.out.below HB12.out) HL12.out.lf HL12.out.lq HL12.out.lqc HA.out.form HA.out.fqz HA.out.pz HA.out.text HA.out.tgx HA.out.fit)).mono ?_
      rintro e w13 ⟨rfl, hb_⟩
      refine ⟨_, rfl, ?_⟩
      rw [HA.out.txt]
      have HB13 := Aside0.mk (below_step HB12.out hb_)
      have HL13 := Aside0.mk (HL12.out.below hb_)
      have HM13 := Aside0.mk (HM12.out.below hb_)
      have HA13 := Aside0.mk (HA12.out.below hb_ HA12.out.lt)
      have HC13 := Aside0.mk (HC12.out.below hb_ HC12.out.lt)
      clear hb_ HB12 HL12 HA12 HM12 HC12 
      refine hK.out _ _ ⟨HA13.out.cell 0, HA13.out.cell 1, HA13.out.cell 2, HA13.out.cell 3, HA13.out.cell 4, HA13.out.cell 5, HC13.out.cell 0, HC13.out.cell 1, HC13.out.cell 2, HC13.out.cell 3, HC13.out.cell 4, HC13.out.cell 5⟩ (fun hHeld => ?_)
      clear hK K
      refine norm_ (a' := ?_) ?_ ?_
      rotate_left
      · show Act.put _ (some 47) _ = _
        simp only [Act.put, List.setIfInBounds_toArray, List.set_cons_zero, List.set_cons_succ, i64_w, i32_w]
        rfl
      refine pure_ (i := 14) (N := some 48) (v := ?_) (a' := ?_) #[true, true, true, true, true, true, true, true, true, true, true, true, true, true, true, false, false, false, false, false] rfl rfl (by kernel_rfl) (fun _ _ _ h => h) (Or.inl ⟨by rfl, ?_⟩) ?_ ?_
      rotate_left
      · intro w'
        go_simp
        with_reducible rfl
      rotate_left
      · simp only [Act.put, List.setIfInBounds_toArray, List.set_cons_zero, List.set_cons_succ, i64_w, i32_w]
        rfl
      refine pure_ (i := 15) (N := some 49) (v := ?_) (a' := ?_) #[true, true, true, true, true, true, true, true, true, true, true, true, true, true, true, true, false, false, false, false] rfl rfl (by kernel_rfl) (fun _ _ _ h => h) (Or.inl ⟨by rfl, ?_⟩) ?_ ?_
      rotate_left
      · intro w'
        go_simp
        with_reducible rfl
      rotate_left
      · simp only [Act.put, List.setIfInBounds_toArray, List.set_cons_zero, List.set_cons_succ, i64_w, i32_w]
        rfl
      refine pure_ (i := 16) (N := some 50) (v := ?_) (a' := ?_) #[true, true, true, true, true, true, true, true, true, true, true, true, true, true, true, true, true, false, false, false] rfl rfl (by kernel_rfl) (fun _ _ _ h => h) (Or.inl ⟨by rfl, ?_⟩) ?_ ?_
      rotate_left
      · intro w'
        go_simp
        with_reducible rfl
      rotate_left
      · simp only [Act.put, List.setIfInBounds_toArray, List.set_cons_zero, List.set_cons_succ, i64_w, i32_w]
        rfl
      refine one_ (i := 17) (N := some 51) #[true, true, true, true, true, true, true, true, true, true, true, true, true, true, true, true, true, true, false, false] rfl rfl (by kernel_rfl) (by decide) (fun K hK => ?_)
      refine goes_ Tryz.func5 (by kernel_rfl) rfl #[] (by rfl) rfl rfl (by simp only [List.map_toArray, List.map_cons, List.map_nil]) ?_
      with_reducible refine (p_alive.calls (HT.out.below HB13.out)).mono ?_
      rintro e w14 ⟨rfl, hb_⟩
      refine ⟨_, rfl, ?_⟩
      have HB14 := Aside0.mk (below_step HB13.out hb_)
      have HL14 := Aside0.mk (HL13.out.below hb_)
      have HM14 := Aside0.mk (HM13.out.below hb_)
      have HA14 := Aside0.mk (HA13.out.below hb_ HA13.out.lt)
      have HC14 := Aside0.mk (HC13.out.below hb_ HC13.out.lt)
      clear hb_ HB13 HL13 HA13 HM13 HC13 
      refine hK.out _ _ ⟨HA14.out.cell 0, HA14.out.cell 1, HA14.out.cell 2, HA14.out.cell 3, HA14.out.cell 4, HA14.out.cell 5, HC14.out.cell 0, HC14.out.cell 1, HC14.out.cell 2, HC14.out.cell 3, HC14.out.cell 4, HC14.out.cell 5⟩ (fun hHeld => ?_)
      clear hK K
      refine norm_ (a' := ?_) ?_ ?_
      rotate_left
      · show Act.put _ (some 51) _ = _
        simp only [Act.put, List.setIfInBounds_toArray, List.set_cons_zero, List.set_cons_succ, i64_w, i32_w]
        rfl
      refine pure_ (i := 18) (N := some 52) (v := ?_) (a' := ?_) #[true, true, true, true, true, true, true, true, true, true, true, true, true, true, true, true, true, true, true, false] rfl rfl (by kernel_rfl) (fun _ _ _ h => h) (Or.inl ⟨by rfl, ?_⟩) ?_ ?_
      rotate_left
      · intro w'
        go_simp
        with_reducible rfl
      rotate_left
      · simp only [Act.put, List.setIfInBounds_toArray, List.set_cons_zero, List.set_cons_succ, i64_w, i32_w]
        rfl
      refine pure_ (i := 19) (N := some 2) (v := ?_) (a' := ?_) #[true, true, true, true, true, true, true, true, true, true, true, true, true, true, true, true, true, true, true, true] rfl rfl (by kernel_rfl) (fun _ _ _ h => h) (Or.inl ⟨by rfl, ?_⟩) ?_ ?_
      rotate_left
      · intro w'
        go_simp
        with_reducible rfl
      rotate_left
      · simp only [Act.put, List.setIfInBounds_toArray, List.set_cons_zero, List.set_cons_succ, i64_w, i32_w]
        rfl
      refine done_ (by kernel_rfl) ?_
      clear hHeld
      go_wp2_with fail
      go_ret
      exact ⟨by first | rfl | simp, HB14.out⟩
    · obtain ⟨n, hn0⟩ : ∃ n, (parseR b).1 = n := ⟨_, rfl⟩
      have hr : parseR b = (n, Rq0) := Prod.ext hn0 (bad_none (by omega) h0)
      rw [hr] at hp
      rw [hn0] at h0
      have hn : (n == 0) = false := beq_eq_false_iff_ne.2 h0
      have hn' : (n != 0) = true := by rw [bne, hn]; rfl
      have HT := Aside0.mk hT
      clear h0 hT hb hr hn0
      go_enter Tryz.func3, Tryz.ntmps3
      go_wp2_with fail
      refine hp.mono ?_
      rintro e w2 ⟨Aq, cq, Af, cf, Am, cm, rfl, hq, hf, hm, hb2⟩
      have HL2 := Aside0.mk (show Lie [] [] [] Aq cq Af cf Am cm w2 from ⟨(Kd.R_reads' hq).2.2, (Kd.R_reads' hq).2.1, (Kd.R_reads' hf).2.2, (Kd.R_reads' hf).2.1, (Kd.R_reads' hm).2.2, (Kd.R_reads' hm).2.1⟩)
      have e1 : Rq0.q.length = 0 := rfl
      have e2 : Rq0.f.length = 0 := rfl
      have e3 : Rq0.v.length = 0 := rfl
      have e4 : Rq0.m = ⟨#[]⟩ := rfl
      have e5 : Rq0.p = ⟨#[]⟩ := rfl
      have e6 : Rq0.b = ⟨#[]⟩ := rfl
      rw [e1, e2, e3, e4, e5, e6]
      obtain ⟨W3, hW3⟩ : ∃ W, W = w2.alloc (.cells #[.string ⟨#[]⟩, .string ⟨#[]⟩, .slice Aq 0 cq, .slice Af 0 cf, .string ⟨#[]⟩, .slice Am 0 cm] 26) := ⟨_, rfl⟩
      have hb3 : Below w2.heap.size w2 W3 := hW3 ▸ below_alloc (Below.refl _ _) _
      have HB3 := Aside0.mk (below_step hb2 hb3)
      have HL3 := Aside0.mk (HL2.out.below hb3)
      have HA3 := Aside0.mk (show Blk.At w2.heap.size #[.string ⟨#[]⟩, .string ⟨#[]⟩, .slice Aq 0 cq, .slice Af 0 cf, .string ⟨#[]⟩, .slice Am 0 cm] 26 W3 from hW3 ▸ Blk.At.new w2 _ _)
      have x0 : W3.cell? ⟨w2.heap.size, 0, none⟩ = some (.string ⟨#[]⟩) := HA3.out.cell 0
      have x1 : W3.cell? ⟨w2.heap.size, 1, none⟩ = some (.string ⟨#[]⟩) := HA3.out.cell 1
      have x2 : W3.cell? ⟨w2.heap.size, 2, none⟩ = some (.slice Aq 0 cq) := HA3.out.cell 2
      have x3 : W3.cell? ⟨w2.heap.size, 3, none⟩ = some (.slice Af 0 cf) := HA3.out.cell 3
      have x4 : W3.cell? ⟨w2.heap.size, 4, none⟩ = some (.string ⟨#[]⟩) := HA3.out.cell 4
      have x5 : W3.cell? ⟨w2.heap.size, 5, none⟩ = some (.slice Am 0 cm) := HA3.out.cell 5
      have htd := p_told.calls (m := ⟨#[]⟩) (p := ⟨#[]⟩) (bd := ⟨#[]⟩) HL3.out (by decide) (by decide) (by decide)
      rw [show ([] : List S105).length = 0 from rfl, show ([] : List S67).length = 0 from rfl] at htd
      replace hW3 := hW3.symm
      clear hq hf hm hb2 hb3 hp HL2 HL3 HA3 e1 e2 e3 e4 e5 e6
      go_wp2_with fail
      refine htd.mono ?_
      rintro e w4 ⟨Bq, dq, Bf, df, Bm, dm, rfl, hl, hb⟩
      have HB4 := Aside0.mk (below_step HB3.out hb)
      have hsm := p_SameR.calls (m := ⟨#[]⟩) (p := ⟨#[]⟩) (bd := ⟨#[]⟩) hl (Bq := none) (dq := 0) (Bf := none) (df := 0) (Bm := none) (dm := 0) ⟨Kd.C_nil k84 w4, Nat.le_refl _, Kd.C_nil k38 w4, Nat.le_refl _, Kd.C_nil k84 w4, Nat.le_refl _⟩ (by decide) (by decide) (by decide)
      rw [show (([] : List S105).map d84).length = 0 from rfl, show (([] : List S67).map d38).length = 0 from rfl] at hsm
      rw [show (([] : List S105).map d84).length = 0 from rfl, show (([] : List S67).map d38).length = 0 from rfl]
      clear hb htd hl x0 x1 x2 x3 x4 x5
      go_wp2_with fail
      refine hsm.mono ?_
      rintro e w5 ⟨rfl, hb⟩
      have HB5 := Aside0.mk (below_step HB4.out hb)
      have hal := p_alive.calls (HT.out.below HB5.out)
      clear hb hsm
      go_wp2_with fail
      refine hal.mono ?_
      rintro e w6 ⟨rfl, hb⟩
      have HB6 := Aside0.mk (below_step HB5.out hb)
      clear hb hal
      go_wp2_with fail
      go_ret
      exact ⟨rfl, HB6.out⟩
  · have hb' : decide ((b.size : Int) > 1300) = true := decide_eq_true (by omega)
    have h1 := p_alive.calls hT
    clear hb
    go_enter Tryz.func3, Tryz.ntmps3
    go_wp2_with fail
    refine h1.mono ?_
    rintro e w1 ⟨rfl, hb1⟩
    go_wp2_with fail
    go_ret
    exact ⟨rfl, hb1⟩
end Go.Proofs.YtljlkpfiebcoeaaGreatDoor.H
