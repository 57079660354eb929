/- The law of what is told, walked. No condition but those typed. -/
import Derived.Test.YtljlkpfiebcoeaaDoorHw4
namespace Go.Proofs.YtljlkpfiebcoeaaDoor.H
open Go.RowKit Go.Sort Go.Shelf Go.Proofs.YtljlkpfiebcoeaaDoor.Q Go.Proofs.YtljlkpfiebcoeaaDoorW.PrintWords Go.Proofs.YtljlkpfiebcoeaaDoorW.PrintLast Go.Proofs.YtljlkpfiebcoeaaDoorW.PrintMore
attribute [local go_sem] max2_int min2_int max_two min_two max_three min_three max_four min_four   -- for this text's walks alone
set_option linter.unusedVariables false
set_option linter.unusedSimpArgs false
set_option maxRecDepth 100000
/-! ### A response's lines: plain -/
def blk (ls : List (List UInt8)) : List UInt8 := ls.flatMap fun x => x ++ [13, 10]
def goodL (x : List UInt8) : Prop := x ≠ [] ∧ (13 : UInt8) ∉ x
/-- What the statement's loop tells of the bytes from i on: how many lines, and where they end. -/
def scan : List UInt8 → Int → Int → Int × Int
  | a :: b :: r, i, n => if a = 13 ∧ b = 10 then (if r.take 2 = [13, 10] then (n + 1, i + 4) else scan (b :: r) (i + 1) (n + 1)) else scan (b :: r) (i + 1) n
  | _, _, n => (n, -1)
theorem scan_short {l : List UInt8} (h : l.length < 2) (i n : Int) : scan l i n = (n, -1) := by
  match l, h with
  | [], _ => rfl
  | [_], _ => rfl
theorem scan_step {a b : UInt8} {r : List UInt8} {i n : Int} (h : ¬ (a = 13 ∧ b = 10)) : scan (a :: b :: r) i n = scan (b :: r) (i + 1) n := by rw [scan, if_neg h]
theorem scan_line {r : List UInt8} {i n : Int} (h : r.take 2 ≠ [13, 10]) : scan (13 :: 10 :: r) i n = scan (10 :: r) (i + 1) (n + 1) := by rw [scan, if_pos ⟨rfl, rfl⟩, if_neg h]
theorem scan_end {r : List UInt8} {i n : Int} (h : r.take 2 = [13, 10]) : scan (13 :: 10 :: r) i n = (n + 1, i + 4) := by rw [scan, if_pos ⟨rfl, rfl⟩, if_pos h]
theorem scan_skip : ∀ (x y : List UInt8) (i n : Int), (13 : UInt8) ∉ x → scan (x ++ y) i n = scan y (i + x.length) n
  | [], y, i, n, _ => by rw [List.nil_append]; congr 1; simp
  | a :: x, y, i, n, h => by
    have ha : a ≠ 13 := fun e => h (by rw [e]; exact List.mem_cons_self)
    have hx : (13 : UInt8) ∉ x := fun e => h (List.mem_cons_of_mem _ e)
    have ih := scan_skip x y (i + 1) n hx
    have e : i + ((a :: x).length : Int) = i + 1 + x.length := by rw [List.length_cons]; omega
    rw [e, ← ih, List.cons_append]
    cases hr : x ++ y with
    | nil => rfl
    | cons b r => rw [scan_step (fun k => ha k.1)]
theorem scan_blk (body : List UInt8) : ∀ (ls : List (List UInt8)) (i n : Int), ls ≠ [] → (∀ x ∈ ls, goodL x) → scan (blk ls ++ 13 :: 10 :: body) i n = (n + ls.length, i + (blk ls).length + 2)
  | [], _, _, h, _ => absurd rfl h
  | [x], i, n, _, h => by
    have hx := h x (by simp)
    show scan ((x ++ [13, 10] ++ []) ++ 13 :: 10 :: body) i n = (n + 1, _)
    rw [List.append_nil, List.append_assoc, scan_skip x _ _ _ hx.2]
    show scan (13 :: 10 :: 13 :: 10 :: body) _ _ = _
    rw [scan_end rfl]
    have : (blk [x]).length = x.length + 2 := by simp [blk]
    rw [this]
    congr 1
    omega
  | x :: y :: r, i, n, _, h => by
    have hx := h x (by simp)
    have hy := h y (by simp)
    have ih := scan_blk body (y :: r) (i + x.length + 2) (n + 1) (by simp) (fun z hz => h z (List.mem_cons_of_mem _ hz))
    have e1 : blk (x :: y :: r) = x ++ 13 :: 10 :: blk (y :: r) := by simp [blk]
    obtain ⟨c, t, hc⟩ : ∃ c t, blk (y :: r) = c :: t ∧ c ≠ 13 := by
      obtain ⟨h1, h2⟩ := hy
      match y, h1, h2 with
      | c :: u, _, h2 => exact ⟨c, u ++ [13, 10] ++ blk r, by simp [blk], fun e => h2 (by rw [e]; exact List.mem_cons_self)⟩
    rw [e1, List.append_assoc, scan_skip x _ _ _ hx.2]
    show scan (13 :: 10 :: (blk (y :: r) ++ 13 :: 10 :: body)) _ _ = _
    rw [scan_line (by rw [hc.1]; intro e; simp at e; exact hc.2 e.1)]
    have e2 := scan_skip [10] (blk (y :: r) ++ 13 :: 10 :: body) (i + x.length + 1) (n + 1) (by decide)
    rw [List.singleton_append] at e2
    rw [e2, show i + (x.length : Int) + 1 + (([10] : List UInt8).length : Int) = i + x.length + 2 from by simp; omega, ih]
    congr 1
    · simp only [List.length_cons]; omega
    · rw [List.length_append, List.length_cons, List.length_cons]; omega
theorem clean_all : ∀ c : Fin 256, cleanB (UInt8.ofNat c.val) ≠ 13 := by decide +kernel
theorem clean_no (s : ByteArray) : (13 : UInt8) ∉ (cleanS s).data.toList := by
  show (13 : UInt8) ∉ ((s.data.toList.map cleanB).toArray).toList
  intro h
  rw [List.toList_toArray] at h
  obtain ⟨c, -, hc⟩ := List.mem_map.1 h
  have := clean_all ⟨c.toNat, c.toNat_lt⟩
  simp only [UInt8.ofNat_toNat] at this
  exact this hc
theorem catB_data : ∀ ss : List ByteArray, (catB ss).data.toList = ss.flatMap fun s => s.data.toList
  | [] => rfl
  | s :: r => by
    show (s ++ catB r).data.toList = _
    rw [data_app, catB_data r]
    rfl
theorem lnB_data (t : ByteArray) (ss : List ByteArray) : (lnB t ss).data.toList = t.data.toList ++ ((ss.flatMap fun s => s.data.toList) ++ [13, 10]) := by
  unfold lnB
  rw [data_app, data_app, catB_data, List.append_assoc]
/-- The response's lines. -/
def line1 (pd rs : ByteArray) : List UInt8 := [72, 84, 84, 80, 47, 49, 46, 49, 32] ++ (pd.data.toList ++ ([32] ++ rs.data.toList))
def line2 (typ : ByteArray) : List UInt8 := [67, 111, 110, 116, 101, 110, 116, 45, 84, 121, 112, 101, 58, 32] ++ (cleanS typ).data.toList
def line3 (typ : ByteArray) : List UInt8 := [88] ++ ([58, 32] ++ (cleanS typ).data.toList)
def line4 (tx : ByteArray) : List UInt8 := [67, 111, 110, 116, 101, 110, 116, 45, 76, 101, 110, 103, 116, 104, 58, 32] ++ tx.data.toList
def linesW (pd rs tx typ : ByteArray) : List (List UInt8) := if typ.toList = [] then [line1 pd rs, line3 typ, line4 tx] else [line1 pd rs, line2 typ, line3 typ, line4 tx]
def xF (typ : ByteArray) : S33 := ⟨⟨#[88]⟩, typ⟩
theorem wr_lines (pd rs tx typ body : ByteArray) : (wrB pd rs tx typ [xF typ] body).data.toList = blk (linesW pd rs tx typ) ++ 13 :: 10 :: body.data.toList := by
  unfold wrB
  rw [data_app, lnB_data, lnB_data]
  show (lnB (hdB pd rs typ) [(xF typ).f0, ⟨#[58, 32]⟩, cleanS (xF typ).f1]).data.toList ++ _ ++ _ ++ _ = _
  rw [lnB_data]
  unfold hdB linesW
  by_cases ht : typ.toList = []
  · rw [if_pos ht, if_pos ht, lnB_data]
    simp [blk, line1, line3, line4, xF, List.append_assoc]
  · rw [if_neg ht, if_neg ht, lnB_data, lnB_data]
    simp [blk, line1, line2, line3, line4, xF, List.append_assoc]
theorem lines_good {pd rs tx : ByteArray} (hp : (13 : UInt8) ∉ pd.data.toList) (hr : (13 : UInt8) ∉ rs.data.toList) (hx : (13 : UInt8) ∉ tx.data.toList) (typ : ByteArray) : ∀ x ∈ linesW pd rs tx typ, goodL x := by
  have g1 : goodL (line1 pd rs) := ⟨by simp [line1], by simp [line1, hp, hr]⟩
  have g2 : goodL (line2 typ) := ⟨by simp [line2], fun k => (List.mem_append.1 k).elim (by decide) (clean_no typ)⟩
  have g3 : goodL (line3 typ) := ⟨by simp [line3], fun k => (List.mem_append.1 k).elim (by decide) (fun k => (List.mem_append.1 k).elim (by decide) (clean_no typ))⟩
  have g4 : goodL (line4 tx) := ⟨by simp [line4], by simp [line4, hx]⟩
  intro x h
  unfold linesW at h
  split at h
  · simp at h
    rcases h with rfl | rfl | rfl <;> assumption
  · simp at h
    rcases h with rfl | rfl | rfl | rfl <;> assumption
/-- What the statement asks of a response. -/
theorem tells_plain {pd rs tx : ByteArray} (hp : (13 : UInt8) ∉ pd.data.toList) (hr : (13 : UInt8) ∉ rs.data.toList) (hx : (13 : UInt8) ∉ tx.data.toList) (typ body : ByteArray) :
    ∃ X : List UInt8, (wrB pd rs tx typ [xF typ] body).data.toList = X ++ (line4 tx ++ [13, 10, 13, 10]) ++ body.data.toList ∧ scan (wrB pd rs tx typ [xF typ] body).data.toList 0 0 = (if typ.toList = [] then 3 else 4, ((X.length + ((line4 tx).length + 4) : Nat) : Int)) := by
  have h := wr_lines pd rs tx typ body
  have hg := lines_good hp hr hx typ
  rw [h, scan_blk _ _ _ _ (by unfold linesW; split <;> simp) hg]
  unfold linesW
  by_cases ht : typ.toList = []
  · rw [if_pos ht, if_pos ht]
    refine ⟨blk [line1 pd rs, line3 typ], by simp [blk], ?_⟩
    simp [blk]
    omega
  · rw [if_neg ht, if_neg ht]
    refine ⟨blk [line1 pd rs, line2 typ, line3 typ], by simp [blk], ?_⟩
    simp [blk]
    omega
/-! ### The law of what is told (4) -/
theorem C_one {w : World} {g : Nat} {f : S33} (h : Blk.At g #[.string f.f0, .string f.f1] 33 w) : Kd.C k33 w (some ⟨g, 0, none⟩) [f].length [f] := ⟨rfl, (by decide : 1 ≤ 9223372036854775807), fun _ => ⟨_, rfl, fun j p hj => by
  cases j with
  | zero =>
    obtain rfl : f = p := by simpa using hj
    refine ⟨[.string f.f0, .string f.f1], rfl, k33_mk _ _, fun i u hu => ?_⟩
    have hc := h.cell i
    rw [show (⟨g, 0, none⟩ : Addr).add (0 * k33.sz + i) = ⟨g, i, none⟩ from by rw [Nat.zero_mul, Nat.zero_add, Addr.add_lit, Nat.zero_add]]
    rw [hc]
    simpa using hu
  | succ j => simp at hj⟩⟩
def RsOk (o : Option ByteArray) : Prop := ∃ rs, o = some rs ∧ (13 : UInt8) ∉ rs.data.toList ∧ rs.size ≤ 100
theorem RsOk.ite {c : Prop} [Decidable c] {a b : Option ByteArray} (ha : RsOk a) (hb : RsOk b) : RsOk (if c then a else b) := by
  split
  · exact ha
  · exact hb
theorem reason_ok (st : Int) : RsOk (http_Reason.f st) := by
  unfold http_Reason.f
  repeat (first | exact ⟨_, rfl, by decide, by decide⟩ | refine RsOk.ite ⟨_, rfl, by decide, by decide⟩ ?_)
theorem pad_mem (a b : Int) : ∀ x ∈ Plain.padded a b, x = 45 ∨ (48 ≤ x ∧ x < 58) := by
  intro x hx
  unfold Plain.padded at hx
  rcases List.mem_append.1 hx with h | h
  · split at h
    · exact .inl (List.mem_singleton.1 h)
    · cases h
  · rw [List.mem_reverse] at h
    unfold Plain.padTo at h
    rcases List.mem_append.1 h with h | h
    · exact .inr (Plain.ds_range _ x h)
    · obtain ⟨_, rfl⟩ := List.mem_replicate.1 h
      exact .inr (by decide)
theorem pad_bytes (a b : Int) : bytesOf (strOfNums (Plain.padded a b)) = Plain.padded a b := Plain.bytes_str fun x hx => by
  have := pad_mem a b x hx
  omega
theorem pad_no (a b : Int) : (13 : UInt8) ∉ (strOfNums (Plain.padded a b)).data.toList := by
  intro h
  have h1 : (13 : Int) ∈ bytesOf (strOfNums (Plain.padded a b)) := List.mem_map.2 ⟨13, h, rfl⟩
  rw [pad_bytes] at h1
  have := pad_mem a b 13 h1
  omega
theorem pad_small (a b : Int) (h : -9223372036854775808 ≤ a ∧ a < 9223372036854775808) : (strOfNums (Plain.padded a b)).size ≤ 100 := by
  have hm := Plain.most_eq b
  have := Plain.ds_len 20 a.natAbs (by omega)
  rw [Plain.str_size]
  unfold Plain.padded Plain.padTo
  have h1 : (if a < 0 then [45] else [] : List Int).length ≤ 1 := by split <;> simp
  rw [List.length_append, List.length_reverse, List.length_append, List.length_replicate]
  omega
def tailT (tx : ByteArray) : ByteArray := (⟨#[67, 111, 110, 116, 101, 110, 116, 45, 76, 101, 110, 103, 116, 104, 58, 32]⟩ ++ tx) ++ ⟨#[13, 10, 13, 10]⟩
/-- What is known of a response's bytes: p where its body begins, z how long what stands ahead of it is. -/
structure Told (s body tl : ByteArray) (want : Int) (p : Nat) : Prop where
  size : s.size = p + body.size
  room : tl.size ≤ p
  body : s.extract p s.size = body
  tail : s.extract (p - tl.size) p = tl
  scan : scan s.data.toList 0 0 = (want, (p : Int))
theorem told_of {pd rs tx : ByteArray} (hp : (13 : UInt8) ∉ pd.data.toList) (hr : (13 : UInt8) ∉ rs.data.toList) (hx : (13 : UInt8) ∉ tx.data.toList) (typ body : ByteArray) :
    ∃ p, Told (wrB pd rs tx typ [xF typ] body) body (tailT tx) (if typ.toList = [] then 3 else 4) p := by
  obtain ⟨X, h1, h2⟩ := tells_plain hp hr hx typ body
  generalize wrB pd rs tx typ [xF typ] body = s at h1 h2 ⊢
  have ht : (tailT tx).data.toList = line4 tx ++ [13, 10, 13, 10] := by
    unfold tailT line4
    rw [data_app, data_app]
  have htl : (tailT tx).size = (line4 tx).length + 4 := by rw [← data_len, ht]; simp
  rw [← ht] at h1
  have hs : s.size = X.length + (tailT tx).size + body.size := by rw [← data_len, h1, List.length_append, List.length_append, data_len, data_len]
  refine ⟨X.length + (tailT tx).size, hs, by omega, ?_, ?_, ?_⟩
  · apply ba_ext
    rw [Lib.extract_data, h1, List.take_of_length_le (by simp only [List.length_drop, List.length_append, data_len]; omega)]
    rw [show X.length + (tailT tx).size = (X ++ (tailT tx).data.toList).length from by rw [List.length_append, data_len], List.drop_left]
  · apply ba_ext
    rw [Lib.extract_data, h1]
    rw [show X.length + (tailT tx).size - (tailT tx).size = X.length from by omega, List.append_assoc, List.drop_left]
    rw [show X.length + (tailT tx).size - X.length = (tailT tx).data.toList.length from by rw [data_len]; omega, List.take_left]
  · rw [h2, htl]
theorem drop2 {l : List UInt8} {n : Nat} (h : n + 1 < l.length) : l.drop n = l[n] :: l[n + 1] :: l.drop (n + 2) := by
  rw [List.drop_eq_getElem_cons (by omega), List.drop_eq_getElem_cons (by omega : n + 1 < l.length)]
theorem take2 {l : List UInt8} {n : Nat} (h : n + 3 < l.length) : (l.drop (n + 2)).take 2 = [l[n + 2], l[n + 3]] := by
  rw [List.drop_eq_getElem_cons (by omega), List.drop_eq_getElem_cons (by omega : n + 3 < l.length)]
  rfl
theorem take2_short {l : List UInt8} {n : Nat} (h : ¬ n + 3 < l.length) : (l.drop (n + 2)).take 2 ≠ [13, 10] := by
  intro e
  have := congrArg List.length e
  rw [List.length_take, List.length_drop] at this
  simp at this
  omega
/-- The state of the statement's loop: i, how many lines, where they end. -/
def Scn (s : ByteArray) (fin : Int × Int) (n : Nat) (li ai : Int) : Prop := n ≤ s.size ∧ 0 ≤ li ∧ li ≤ n ∧ ((ai = -1 ∧ scan (s.data.toList.drop n) n li = fin) ∨ (0 ≤ ai ∧ (li, ai) = fin))
theorem Scn.none {s : ByteArray} {fin : Int × Int} {n : Nat} {li ai : Int} (h : Scn s fin n li ai) (ha : ai < 0) : ai = -1 ∧ scan (s.data.toList.drop n) n li = fin := by
  rcases h.2.2.2 with k | k
  · exact k
  · omega
theorem Scn.miss {s : ByteArray} {fin : Int × Int} {n : Nat} {li : Int} (h : Scn s fin n li (-1)) (hn : n + 1 < s.size) (hc : ¬ (s.data.toList[n]'(by rw [data_len]; omega) = 13 ∧ s.data.toList[n + 1]'(by rw [data_len]; omega) = 10)) : Scn s fin (n + 1) li (-1) := by
  have h1 := (h.none (by omega)).2
  rw [drop2 (by rw [data_len]; omega), scan_step hc] at h1
  refine ⟨by omega, h.2.1, by have := h.2.2.1; omega, .inl ⟨rfl, ?_⟩⟩
  rw [List.drop_eq_getElem_cons (by rw [data_len]; omega)]
  exact h1
theorem Scn.line {s : ByteArray} {fin : Int × Int} {n : Nat} {li : Int} (h : Scn s fin n li (-1)) (hn : n + 1 < s.size) (h0 : s.data.toList[n]'(by rw [data_len]; omega) = 13) (h1 : s.data.toList[n + 1]'(by rw [data_len]; omega) = 10) (h2 : (s.data.toList.drop (n + 2)).take 2 ≠ [13, 10]) : Scn s fin (n + 1) (li + 1) (-1) := by
  have h3 := (h.none (by omega)).2
  rw [drop2 (by rw [data_len]; omega), h0, h1, scan_line h2] at h3
  have h4 := h.2.1
  have h5 := h.2.2.1
  refine ⟨by omega, by omega, by omega, .inl ⟨rfl, ?_⟩⟩
  rw [List.drop_eq_getElem_cons (by rw [data_len]; omega), h1]
  exact h3
theorem Scn.ends {s : ByteArray} {fin : Int × Int} {n : Nat} {li : Int} (h : Scn s fin n li (-1)) (hn : n + 1 < s.size) (h0 : s.data.toList[n]'(by rw [data_len]; omega) = 13) (h1 : s.data.toList[n + 1]'(by rw [data_len]; omega) = 10) (h2 : (s.data.toList.drop (n + 2)).take 2 = [13, 10]) : Scn s fin (n + 1) (li + 1) ((n : Int) + 4) := by
  have h3 := (h.none (by omega)).2
  rw [drop2 (by rw [data_len]; omega), h0, h1, scan_end h2] at h3
  have h4 := h.2.1
  have h5 := h.2.2.1
  exact ⟨by omega, by omega, by omega, .inr ⟨by omega, h3⟩⟩
theorem Scn.fin {s : ByteArray} {fin : Int × Int} {n : Nat} {li ai : Int} (h : Scn s fin n li ai) (hd : ¬ n + 1 < s.size ∨ ¬ ai < 0) (hf : 0 ≤ fin.2) : (li, ai) = fin := by
  rcases h.2.2.2 with ⟨k1, k2⟩ | k
  · rcases hd with hd | hd
    · rw [scan_short (by rw [List.length_drop, data_len]; omega)] at k2
      rw [← k2] at hf
      cases hf
    · omega
  · exact k.2
theorem w_two {n : Nat} (h : n ≤ 4000000) : wrap64 ((n : Int) + 2) = ((n + 2 : Nat) : Int) := by unfold wrap64; omega
theorem w_three {n : Nat} (h : n ≤ 4000000) : wrap64 ((n : Int) + 3) = ((n + 3 : Nat) : Int) := by unfold wrap64; omega
theorem w_four {n : Nat} (h : n ≤ 4000000) : wrap64 ((n : Int) + 4) = (n : Int) + 4 := by unfold wrap64; omega
theorem w_line1 {li : Int} {n : Nat} (h0 : 0 ≤ li) (h1 : li ≤ n) (h : n ≤ 4000000) : wrap64 (li + 1) = li + 1 := by unfold wrap64; omega
theorem w_less {a b c : Nat} (h : a = c + b) (hm : a ≤ 4000000) : wrap64 ((a : Int) - (b : Int)) = (c : Int) := by unfold wrap64; omega
theorem w_sub {a b : Nat} (h : b ≤ a) (hm : a ≤ 4000000) : wrap64 ((a : Int) - (b : Int)) = ((a - b : Nat) : Int) := by unfold wrap64; omega
theorem w_next {n m : Nat} (h : n < m) (hm : m ≤ 4000000) : wrap64 ((n : Int) + 1) = ((n + 1 : Nat) : Int) := by unfold wrap64; omega
theorem w_at {n m : Nat} (h : n ≤ m) (hm : m ≤ 4000000) : wrap64 ((n : Int) + 1) = ((n + 1 : Nat) : Int) := by unfold wrap64; omega
theorem lt_m {n m : Nat} (h : n + 1 < m) (hm : m ≤ 4000000) : n ≤ 4000000 := by omega
theorem wr_size {pd rs tx typ body : ByteArray} {fs : List S33} (h : Fits pd rs tx typ fs body) : (wrB pd rs tx typ fs body).size ≤ 4000000 := by
  have h1 := h.l5
  have h2 := h.body
  unfold wrB
  rw [ByteArray.size_append, lnB_size]
  show _ + 0 + 2 + _ ≤ _
  omega
set_option maxHeartbeats 2000000 in
theorem law_Tells.calls {w : World} (hT : Tabs w) (st : Int) (hst : -9223372036854775808 ≤ st ∧ st < 9223372036854775808) (typ body : ByteArray) : Calls Tryd.prog 4 #[.int .i64 st, .string typ, .string body] w fun e w' => e = .returned (.bool true) ∧ Below w.heap.size w w' := by
  by_cases hb : typ.size ≤ 3000
  · by_cases hm : body.size ≤ 3000
    · have hb' : decide ((typ.size : Int) > 3000) = false := decide_eq_false (by omega)
      have hm' : decide ((body.size : Int) > 3000) = false := decide_eq_false (by omega)
      obtain ⟨k1, hk1⟩ := Plain.pad_ev st 3 hst
      have hpd := hk1 k1 (Nat.le_refl _)
      have hbz : -9223372036854775808 ≤ (body.size : Int) ∧ (body.size : Int) < 9223372036854775808 := by omega
      obtain ⟨k2, hk2⟩ := Plain.pad_ev (body.size : Int) 1 hbz
      have htx : ascii_Text.f k2 (body.size : Int) = some (strOfNums (Plain.padded (body.size : Int) 1)) := by
        unfold ascii_Text.f
        have := hk2 k2 (Nat.le_refl _)
        simp only at this
        rw [this]
        rfl
      obtain ⟨k3, hk3⟩ := Plain.ref_pad_ev (body.size : Int) 1 hbz
      have hrx : cringleref01_Text.f k3 (body.size : Int) = some (strOfNums (Plain.padded (body.size : Int) 1)) := by
        unfold cringleref01_Text.f
        have := hk3 k3 (Nat.le_refl _)
        simp only at this
        rw [this]
        rfl
      obtain ⟨rs, hrs, hr13, hrz⟩ := reason_ok st
      obtain ⟨p, ht⟩ := told_of (pad_no st 3) hr13 (pad_no (body.size : Int) 1) typ body
      have hfit : Fits (strOfNums (Plain.padded st 3)) rs (strOfNums (Plain.padded (body.size : Int) 1)) typ [xF typ] body := ⟨pad_small st 3 hst, hrz, pad_small _ 1 hbz, by omega, by omega, by show 1 ≤ 100; decide, fun i hi => by
        obtain rfl : i = 0 := by simpa using hi
        exact ⟨by show 1 ≤ 6000; decide, by show typ.size ≤ 6000; omega⟩⟩
      obtain ⟨W1, hW1⟩ : ∃ W, W = w.alloc (.cells #[.string ⟨#[88]⟩, .string typ] 33) := ⟨_, rfl⟩
      have hwr := p_Write.calls (A := some ⟨w.heap.size, 0, none⟩) (c := 1) (w := W1) hpd hrs htx hfit (C_one (f := xF typ) (hW1 ▸ Blk.At.new w _ _))
      have HB1 := Aside0.mk (show Below w.heap.size w W1 from hW1 ▸ below_alloc (Below.refl _ _) _)
      have HRX := Aside0.mk (fun W => cringleref01_Text.calls k3 (body.size : Int) _ W hrx)
      have HT := Aside0.mk hT
      replace hW1 := hW1.symm
      have hzb := Aside0.mk hm
      have HMZ := Aside0.mk (wr_size hfit)
      have htz : (strOfNums (Plain.padded (body.size : Int) 1)).size ≤ 100 := pad_small _ 1 hbz
      generalize strOfNums (Plain.padded (body.size : Int) 1) = tx at *
      generalize wrB (strOfNums (Plain.padded st 3)) rs tx typ [xF typ] body = s at *
      clear hT hb hm hk1 hk2 hk3 hpd htx hrx hrs hr13 hrz hfit hbz hst
      have HTD := Aside0.mk ht
      clear ht
      go_enter Tryd.func4, Tryd.ntmps4
      go_wp2_with fail
      refine hwr.mono ?_
      rintro e w2 ⟨rfl, hb2⟩
      have HB2 := Aside0.mk (below_step HB1.out hb2)
      clear hb2 hwr
      go_wp2_with fail
      go_loopw [8, 9, 10] (fun l a i wr => ∃ (n : Nat) (li ai : Int), l = .int .i64 li ∧ a = .int .i64 ai ∧ i = .int .i64 n ∧ Aside0 (Scn s (if typ.toList = [] then 3 else 4, (p : Int)) n li ai) ∧ Aside0 (Below w.heap.size w wr)) (fun _ _ i _ => s.size - (intOf i).toNat)
      case atStart => exact ⟨0, 0, -1, rfl, rfl, rfl, ⟨⟨Nat.zero_le _, by omega, by omega, .inl ⟨rfl, HTD.out.scan⟩⟩⟩, HB2⟩
      case round =>
        clear HB1 HB2
        obtain ⟨n, li, ai, rfl, rfl, rfl, HS, HB⟩ := hrel
        by_cases hc : n + 1 < s.size ∧ ai < 0
        · obtain ⟨hlt, ha⟩ := hc
          obtain rfl : ai = -1 := (HS.out.none ha).1
          clear ha
          have HLT := Aside0.mk hlt
          have e1 := w_next (Nat.lt_of_succ_lt hlt) HMZ.out
          have hd1 : decide (((n + 1 : Nat) : Int) < (s.size : Int)) = true := decide_eq_true (by omega)
          obtain ⟨c0, hc0⟩ : ∃ c, s[n] = c := ⟨_, rfl⟩
          obtain ⟨c1, hc1⟩ : ∃ c, s[n + 1] = c := ⟨_, rfl⟩
          have HM := Aside0.mk (fun (h : ¬ (c0 = 13 ∧ c1 = 10)) => HS.out.miss hlt (by rw [← hc0, ← hc1] at h; exact h))
          have HL := Aside0.mk (fun (h0 : c0 = 13) (h1 : c1 = 10) h2 => HS.out.line hlt (hc0.trans h0) (hc1.trans h1) h2)
          have HE := Aside0.mk (fun (h0 : c0 = 13) (h1 : c1 = 10) h2 => HS.out.ends hlt (hc0.trans h0) (hc1.trans h1) h2)
          have el := w_line1 HS.out.2.1 HS.out.2.2.1 (lt_m hlt HMZ.out)
          clear HS
          cases h0 : ((c0.toNat : Int) == 13) with
          | false =>
            have HN := Aside0.mk (HM.out (fun k => by rw [k.1] at h0; cases h0))
            clear HM HL HE
            go_wp2_with fail
            rw [e1]
            go_roundw
            case rel => exact ⟨n + 1, li, -1, rfl, rfl, rfl, HN, HB⟩
            case measure =>
              simp only [intOf, Int.toNat_natCast]
              have := HLT.out
              omega
          | true =>
            have H0 := Aside0.mk (show c0 = 13 from UInt8.toNat_inj.1 (by have := eq_of_beq h0; show c0.toNat = 13; omega))
            cases h1 : ((c1.toNat : Int) == 10) with
            | false =>
              have HN := Aside0.mk (HM.out (fun k => by rw [k.2] at h1; cases h1))
              clear HM HL HE
              go_wp2_with fail
              rw [e1]
              go_roundw
              case rel => exact ⟨n + 1, li, -1, rfl, rfl, rfl, HN, HB⟩
              case measure =>
                simp only [intOf, Int.toNat_natCast]
                have := HLT.out
                omega
            | true =>
              have H1 := Aside0.mk (show c1 = 10 from UInt8.toNat_inj.1 (by have := eq_of_beq h1; show c1.toNat = 10; omega))
              have e2 := w_two (lt_m hlt HMZ.out)
              have e3 := w_three (lt_m hlt HMZ.out)
              have e4 := w_four (lt_m hlt HMZ.out)
              by_cases h3 : n + 3 < s.size
              · have hd3 : decide (((n + 3 : Nat) : Int) < (s.size : Int)) = true := decide_eq_true (by omega)
                have HT2 := Aside0.mk (take2 (l := s.data.toList) (n := n) (by rw [data_len]; exact h3))
                obtain ⟨c2, hc2⟩ : ∃ c, s[n + 2] = c := ⟨_, rfl⟩
                obtain ⟨c3, hc3⟩ : ∃ c, s[n + 3] = c := ⟨_, rfl⟩
                replace HT2 := Aside0.mk (show (s.data.toList.drop (n + 2)).take 2 = [c2, c3] from by rw [← hc2, ← hc3]; exact HT2.out)
                cases h2 : ((c2.toNat : Int) == 13) with
                | false =>
                  have HN := Aside0.mk (HL.out H0.out H1.out (by rw [HT2.out]; intro k; injection k with k; rw [k] at h2; cases h2))
                  clear HM HL HE HT2
                  go_wp2_with fail
                  rw [e1]
                  go_roundw
                  case rel => exact ⟨n + 1, li + 1, -1, rfl, rfl, rfl, HN, HB⟩
                  case measure =>
                    simp only [intOf, Int.toNat_natCast]
                    have := HLT.out
                    omega
                | true =>
                  cases h4 : ((c3.toNat : Int) == 10) with
                  | false =>
                    have HN := Aside0.mk (HL.out H0.out H1.out (by rw [HT2.out]; intro k; injection k with _ k; injection k with k; rw [k] at h4; cases h4))
                    clear HM HL HE HT2
                    go_wp2_with fail
                    rw [e1]
                    go_roundw
                    case rel => exact ⟨n + 1, li + 1, -1, rfl, rfl, rfl, HN, HB⟩
                    case measure =>
                      simp only [intOf, Int.toNat_natCast]
                      have := HLT.out
                      omega
                  | true =>
                    have HN := Aside0.mk (HE.out H0.out H1.out (by rw [HT2.out, show c2 = 13 from UInt8.toNat_inj.1 (by have := eq_of_beq h2; show c2.toNat = 13; omega), show c3 = 10 from UInt8.toNat_inj.1 (by have := eq_of_beq h4; show c3.toNat = 10; omega)]))
                    clear HM HL HE HT2
                    go_wp2_with fail
                    rw [e1, e4]
                    go_roundw
                    case rel => exact ⟨n + 1, li + 1, (n : Int) + 4, rfl, rfl, rfl, HN, HB⟩
                    case measure =>
                      simp only [intOf, Int.toNat_natCast]
                      have := HLT.out
                      omega
              · have hd3 : decide (((n + 3 : Nat) : Int) < (s.size : Int)) = false := decide_eq_false (by omega)
                have HN := Aside0.mk (HL.out H0.out H1.out (take2_short (by rw [data_len]; exact h3)))
                clear HM HL HE
                go_wp2_with fail
                rw [e1]
                go_roundw
                case rel => exact ⟨n + 1, li + 1, -1, rfl, rfl, rfl, HN, HB⟩
                case measure =>
                  simp only [intOf, Int.toNat_natCast]
                  have := HLT.out
                  omega
        · have hfin := Scn.fin HS.out (by omega) (by show (0 : Int) ≤ (p : Int); omega)
          simp only [Prod.mk.injEq] at hfin
          obtain ⟨rfl, rfl⟩ := hfin
          have e1 := w_at HS.out.1 HMZ.out
          have hg : decide ((p : Int) < 0) = false := decide_eq_false (by omega)
          have hsz := HTD.out.size
          have hp0 : (0 : Int) ≤ (p : Int) := by omega
          have hp1 : (p : Int) ≤ (s.size : Int) := by omega
          have ep := w_less hsz HMZ.out
          have hxb := HTD.out.body
          have hrm := HTD.out.room
          have hxt := HTD.out.tail
          have hal := fun W (hT : Tabs W) => p_alive.calls hT
          obtain ⟨T, hTT⟩ : ∃ T, (⟨#[67, 111, 110, 116, 101, 110, 116, 45, 76, 101, 110, 103, 116, 104, 58, 32]⟩ ++ tx) ++ ⟨#[13, 10, 13, 10]⟩ = T := ⟨_, rfl⟩
          rw [show tailT tx = T from hTT] at hrm hxt
          have hrm' : (T.size : Int) ≤ (p : Int) := by omega
          have eq := w_sub hrm (show p ≤ 4000000 from Nat.le_trans (by omega) HMZ.out)
          clear hc HS hsz
          by_cases hq : n + 1 < s.size
          · have hd1 : decide (((n + 1 : Nat) : Int) < (s.size : Int)) = true := decide_eq_true (by omega)
            by_cases ht : typ.toList = []
            · have hte : typ.toList.isEmpty = true := by rw [ht]; rfl
              rw [if_pos ht]
              clear ht
              go_wp2_with fail
              refine (HRX.out _).mono ?_
              rintro e w3 ⟨rfl, hb3⟩
              have HB3 := Aside0.mk (below_step HB.out hb3)
              have hal3 := hal w3 (HT.out.below HB3.out)
              clear hb3
              go_wp2_with fail
              refine hal3.mono ?_
              rintro e w4 ⟨rfl, hb4⟩
              have HB4 := Aside0.mk (below_step HB3.out hb4)
              clear hb4 hal3
              go_wp2_with fail
              go_ret
              exact ⟨rfl, HB4.out⟩
            · have hte : typ.toList.isEmpty = false := by rw [List.isEmpty_eq_false_iff]; exact ht
              rw [if_neg ht]
              clear ht
              go_wp2_with fail
              refine (HRX.out _).mono ?_
              rintro e w3 ⟨rfl, hb3⟩
              have HB3 := Aside0.mk (below_step HB.out hb3)
              have hal3 := hal w3 (HT.out.below HB3.out)
              clear hb3
              go_wp2_with fail
              refine hal3.mono ?_
              rintro e w4 ⟨rfl, hb4⟩
              have HB4 := Aside0.mk (below_step HB3.out hb4)
              clear hb4 hal3
              go_wp2_with fail
              go_ret
              exact ⟨rfl, HB4.out⟩
          · have hd1 : decide (((n + 1 : Nat) : Int) < (s.size : Int)) = false := decide_eq_false (by omega)
            by_cases ht : typ.toList = []
            · have hte : typ.toList.isEmpty = true := by rw [ht]; rfl
              rw [if_pos ht]
              clear ht
              go_wp2_with fail
              refine (HRX.out _).mono ?_
              rintro e w3 ⟨rfl, hb3⟩
              have HB3 := Aside0.mk (below_step HB.out hb3)
              have hal3 := hal w3 (HT.out.below HB3.out)
              clear hb3
              go_wp2_with fail
              refine hal3.mono ?_
              rintro e w4 ⟨rfl, hb4⟩
              have HB4 := Aside0.mk (below_step HB3.out hb4)
              clear hb4 hal3
              go_wp2_with fail
              go_ret
              exact ⟨rfl, HB4.out⟩
            · have hte : typ.toList.isEmpty = false := by rw [List.isEmpty_eq_false_iff]; exact ht
              rw [if_neg ht]
              clear ht
              go_wp2_with fail
              refine (HRX.out _).mono ?_
              rintro e w3 ⟨rfl, hb3⟩
              have HB3 := Aside0.mk (below_step HB.out hb3)
              have hal3 := hal w3 (HT.out.below HB3.out)
              clear hb3
              go_wp2_with fail
              refine hal3.mono ?_
              rintro e w4 ⟨rfl, hb4⟩
              have HB4 := Aside0.mk (below_step HB3.out hb4)
              clear hb4 hal3
              go_wp2_with fail
              go_ret
              exact ⟨rfl, HB4.out⟩
    · have hm' : decide ((body.size : Int) > 3000) = true := decide_eq_true (by omega)
      have hb' : decide ((typ.size : Int) > 3000) = false := decide_eq_false (by omega)
      have h1 := p_alive.calls hT
      clear hb hm
      go_enter Tryd.func4, Tryd.ntmps4
      go_wp2_with fail
      refine h1.mono ?_
      rintro e w1 ⟨rfl, hb1⟩
      go_wp2_with fail
      go_ret
      exact ⟨rfl, hb1⟩
  · have hb' : decide ((typ.size : Int) > 3000) = true := decide_eq_true (by omega)
    have h1 := p_alive.calls hT
    clear hb
    go_enter Tryd.func4, Tryd.ntmps4
    go_wp2_with fail
    refine h1.mono ?_
    rintro e w1 ⟨rfl, hb1⟩
    go_wp2_with fail
    go_ret
    exact ⟨rfl, hb1⟩
end Go.Proofs.YtljlkpfiebcoeaaDoor.H
