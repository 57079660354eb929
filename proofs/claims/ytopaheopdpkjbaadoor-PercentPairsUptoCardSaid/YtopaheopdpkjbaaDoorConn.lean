/- What utf.Next and the reference's Next come to: what stands at a text's begin, over its list of bytes. No condition but those typed. · What the loops of utf and of the reference come to: put, mended, told, cut, over lists of bytes. No condition but those typed. · What the printed functions of percent and of the reference come to: marked, unmarked, read. No condition but those typed. · What the printed forms, pairs, and their words in the laws come to. No condition but those typed. · What the printed searches among pairs come to; the reference's texts compared. No condition but those typed. -/
import Derived.Test.YtopaheopdpkjbaaDoorQ
import Derived.Test.YtopaheopdpkjbaaDoorLists
import Derived.Lib.Join
namespace Go.Proofs.YtopaheopdpkjbaaDoor.Plain
open Go.RowKit Go.Proofs.YtopaheopdpkjbaaDoor.Q Go.Proofs.YtopaheopdpkjbaaDoorW.PrintWords Go.Proofs.YtopaheopdpkjbaaDoorW.PrintLast Go.Proofs.YtopaheopdpkjbaaDoorW.PrintMore
open Go.Proofs.YtopaheopdpkjbaaDoor.U8 (B nxt spec encB items text mend signs Right)
set_option linter.unusedVariables false
abbrev D (s : ByteArray) : List UInt8 := s.data.toList
theorem D_len (s : ByteArray) : (D s).length = s.size := data_length s
theorem D_from (s : ByteArray) (i : Nat) : D (s.extract i s.size) = (D s).drop i := by
  unfold D
  rw [Lib.extract_data, List.take_of_length_le (by rw [List.length_drop, data_length]; omega)]
theorem D_to (s : ByteArray) (i : Nat) : D (s.extract 0 i) = (D s).take i := by
  unfold D
  rw [Lib.extract_data, List.drop_zero, Nat.sub_zero]
theorem D_nil (s : ByteArray) : s.toList = ([] : List UInt8) ↔ D s = [] := by rw [Lib.toList_data]
theorem D_inj {a b : ByteArray} (h : D a = D b) : a = b := by
  obtain ⟨x⟩ := a
  obtain ⟨y⟩ := b
  exact congrArg _ (Array.toList_inj.1 h)
theorem get_B (s : ByteArray) (i : Nat) : (s.get! i).toNat = B (D s) i := by
  unfold B D
  obtain ⟨d⟩ := s
  show (d[i]!).toNat = (d.toList.getD i 0).toNat
  rw [List.getD_eq_getElem?_getD, Array.getElem?_toList, Array.getElem!_eq_getD, ← Array.getD_eq_getD_getElem?]
  rfl
theorem bt_B (s : ByteArray) (i : Nat) : bt s (i : Int) = ((B (D s) i : Nat) : Int) := by
  unfold bt
  rw [Int.toNat_natCast]
  split
  · rename_i h
    rw [← get_B, ← Go.Proofs.Utf8W.get!_of_lt s i h]
  · rename_i h
    unfold B D
    rw [List.getD_eq_getElem?_getD, List.getElem?_eq_none (by rw [data_length]; omega)]
    rfl
theorem decode_B (s : ByteArray) (i : Nat) (h : i < s.size) : Utf8.decode s i = (if (nxt ((D s).drop i)).2.2 then ((nxt ((D s).drop i)).1, (nxt ((D s).drop i)).2.1) else (65533, 1)) := by
  have hB : ∀ j, B (D s) (i + j) = B ((D s).drop i) j := fun j => by
    unfold B
    rw [List.getD_eq_getElem?_getD, List.getD_eq_getElem?_getD, List.getElem?_drop]
  rw [Lib.decode_at, get_B, get_B, get_B, get_B]
  unfold nxt
  rw [← hB, ← hB, ← hB, ← hB, List.length_drop, D_len]
  exact U8.decode_spec _ _ _ _ _ (by omega) (U8.B_lt _ _) (U8.B_lt _ _) (U8.B_lt _ _) (U8.B_lt _ _)
theorem decodeGo_D (s : ByteArray) (h : D s ≠ []) : Lib.decodeGo s = (if (nxt (D s)).2.2 then ((nxt (D s)).1, (nxt (D s)).2.1) else (65533, 1)) := by
  have h0 : 0 < s.size := by rw [← D_len]; exact List.length_pos_iff.2 h
  unfold Lib.decodeGo
  rw [if_neg (by omega), decode_B s 0 h0, List.drop_zero]
/-- FullRuneInString of a beginning, where what stands there is no sign. -/
theorem full_spec (n x0 x1 x2 x3 : Nat) (hn : 1 ≤ n) (h : (spec n x0 x1 x2 x3).2.2 = false) (j : Nat) (hj : 1 ≤ j) (hj4 : j ≤ 4) (hjn : j ≤ n) (y1 y2 : Nat) (e1 : 1 < j → y1 = x1) (e2 : 2 < j → y2 = x2) :
    (Full.unicode_utf8_FullRuneInString.n j x0 y1 y2 = true → (spec n x0 x1 x2 x3).2.1 < j ∨ j = 1) ∧ (Full.unicode_utf8_FullRuneInString.n j x0 y1 y2 = false → j ≤ (spec n x0 x1 x2 x3).2.1) := by
  have hc := U8.firstT_classes x0
  unfold Full.unicode_utf8_FullRuneInString.n
  rw [if_neg (by omega)]
  unfold spec at h ⊢
  split at h
  · cases h
  rename_i hb
  rw [if_neg hb]
  split at h
  · rename_i ht
    rw [if_pos ht, ht, if_pos (by omega)]
    exact ⟨fun _ => by simp only; omega, fun h => by cases h⟩
  rename_i ht
  rw [if_neg ht]
  split at h
  · rename_i g1
    rw [if_pos g1]
    refine ⟨fun _ => by simp only; omega, fun hh => ?_⟩
    simp only
    rcases Nat.lt_or_ge 1 j with h1 | h1
    · rw [e1 h1] at hh
      exfalso
      split at hh
      · cases hh
      rw [if_pos (by omega)] at hh
      cases hh
    · omega
  rename_i g1
  rw [if_neg g1]
  split at h
  · cases h
  rename_i s2
  rw [if_neg s2]
  split at h
  · rename_i g2
    rw [if_pos g2]
    simp only
    refine ⟨fun hh => ?_, fun hh => ?_⟩
    · rcases Nat.lt_or_ge 2 j with h1 | h1
      · omega
      · exfalso
        rw [if_neg (by omega)] at hh
        split at hh
        · rename_i q
          rw [e1 q.1] at q
          omega
        · have := of_decide_eq_true hh
          omega
    · rcases Nat.lt_or_ge 2 j with h1 | h1
      · rw [e1 (by omega), e2 h1] at hh
        exfalso
        split at hh
        · cases hh
        rw [if_neg (by omega), decide_eq_true (by omega)] at hh
        cases hh
      · omega
  rename_i g2
  rw [if_neg g2]
  split at h
  · cases h
  rename_i s3
  rw [if_neg s3]
  split at h
  · rename_i g3
    rw [if_pos g3]
    simp only
    refine ⟨fun hh => ?_, fun hh => ?_⟩
    · rcases Nat.lt_or_ge 3 j with h1 | h1
      · omega
      · exfalso
        rw [if_neg (by omega)] at hh
        split at hh
        · rename_i q
          rw [e1 q.1] at q
          omega
        · have q := of_decide_eq_true hh
          rw [e2 q.1] at q
          omega
    · rcases Nat.lt_or_ge 3 j with h1 | h1
      · exfalso
        rw [if_pos (by omega)] at hh
        cases hh
      · omega
  · cases h
theorem B_take (l : List UInt8) {i j : Nat} (h : i < j) : B (l.take j) i = B l i := by
  unfold B
  rw [List.getD_eq_getElem?_getD, List.getD_eq_getElem?_getD, List.getElem?_take, if_pos h]
theorem full_at (s : ByteArray) (h : D s ≠ []) (hb : (nxt (D s)).2.2 = false) (j : Nat) (hj : 1 ≤ j) (hj4 : j ≤ 4) (hjn : j ≤ s.size) :
    ∃ b, utf8_FullRuneInString.f (s.extract 0 j) = some b ∧ (b = true → (nxt (D s)).2.1 < j ∨ j = 1) ∧ (b = false → j ≤ (nxt (D s)).2.1) := by
  have hsz : (s.extract 0 j).size = j := by rw [← D_len, D_to, List.length_take, D_len]; omega
  refine ⟨_, rfl, ?_⟩
  have key := full_spec (D s).length (B (D s) 0) (B (D s) 1) (B (D s) 2) (B (D s) 3) (by rw [D_len]; omega) hb j hj hj4 (by rw [D_len]; omega) (B (D (s.extract 0 j)) 1) (B (D (s.extract 0 j)) 2) (fun h1 => by rw [D_to, B_take _ h1]) (fun h1 => by rw [D_to, B_take _ h1])
  unfold Full.unicode_utf8_FullRuneInString.b
  rw [hsz, get_B, get_B, get_B, show B (D (s.extract 0 j)) 0 = B (D s) 0 from by rw [D_to, B_take _ (by omega)]]
  exact key
/-- The greatest place so far. -/
def val (w j : Nat) : Nat := if j ≤ 1 then 1 else min (j - 1) w
theorem part_loop (s : ByteArray) (hs : s.size ≤ 1000000000000000000) (h : D s ≠ []) (hb : (nxt (D s)).2.2 = false) (d : Nat) : ∀ j : Nat, 1 ≤ j → j + d = min s.size 4 + 1 → Ev (fun k => utf_part.l0 k s ((val (nxt (D s)).2.1 j : Nat) : Int) (j : Int)) (((nxt (D s)).2.1 : Nat) : Int) := by
  have hw := U8.nxt_width h
  rw [D_len] at hw
  have hm : mn (s.size : Int) 4 = ((min s.size 4 : Nat) : Int) := by unfold mn; split <;> omega
  induction d with
  | zero =>
    intro j hj hd
    refine Ev.step (f := fun _ => some (((nxt (D s)).2.1 : Nat) : Int)) (fun k => ?_) (Ev.now _)
    simp only [utf_part.l0]
    rw [hm, if_neg (by omega)]
    congr 2
    unfold val
    split <;> omega
  | succ d ih =>
    intro j hj hd
    obtain ⟨b, hf, h1, h2⟩ := full_at s h hb j hj (by omega) (by omega)
    have hn : wrap64 ((j : Int) + 1) = ((j + 1 : Nat) : Int) := next (by omega)
    have hi := ih (j + 1) (by omega) (by omega)
    cases b with
    | true =>
      refine Ev.step (fun k => ?_) hi
      simp only [utf_part.l0]
      rw [hm, if_pos (by omega), if_pos (by omega), if_pos (by omega), Int.toNat_natCast, hf, Option.bind_some, if_pos rfl, hn]
      have : val (nxt (D s)).2.1 j = val (nxt (D s)).2.1 (j + 1) := by
        have := h1 rfl
        unfold val
        split <;> split <;> omega
      rw [this]
    | false =>
      refine Ev.step (fun k => ?_) hi
      simp only [utf_part.l0]
      rw [hm, if_pos (by omega), if_pos (by omega), if_pos (by omega), Int.toNat_natCast, hf, Option.bind_some, if_neg (by simp), hn]
      have : j = val (nxt (D s)).2.1 (j + 1) := by
        have := h2 rfl
        unfold val
        split <;> omega
      rw [← this]
/-- What an answer of Next is. -/
def told (p : Nat × Nat × Bool) : Int × Int × Int := (((p.1 : Nat) : Int), ((p.2.1 : Nat) : Int), if p.2.2 then 0 else 9)
theorem next_ev (s : ByteArray) (hs : s.size ≤ 1000000000000000000) (h : D s ≠ []) : Ev (fun k => utf_Next.f k s) (told (nxt (D s))) := by
  unfold utf_Next.f utf8_DecodeRuneInString.f
  refine Ev.congr (fun k => if_neg (fun e => h ((D_nil s).1 e))) ?_
  simp only [Option.bind_some]
  rw [decodeGo_D s h]
  cases hb : (nxt (D s)).2.2 with
  | true =>
    have hr := (U8.nxt_ok h hb)
    have : ¬ ((nxt (D s)).1 = 65533 ∧ (nxt (D s)).2.1 = 1) := by
      rintro ⟨e1, e2⟩
      have h2 := congrArg List.length hr.2
      rw [e1, e2, List.length_take, show (encB 65533).length = 3 from by decide] at h2
      omega
    simp only [if_true]
    unfold told
    rw [hb]
    refine Ev.congr (f := fun _ => some ((((nxt (D s)).1 : Nat) : Int), (((nxt (D s)).2.1 : Nat) : Int), 0)) (fun k => ?_) (Ev.now _)
    by_cases c1 : (((nxt (D s)).1 : Nat) : Int) = 65533
    · rw [if_pos c1, if_neg (by omega)]
    · rw [if_neg c1]
  | false =>
    simp only [Bool.false_eq_true, if_false]
    refine Ev.congr (fun k => if_pos rfl) ?_
    refine Ev.congr (fun k => if_pos rfl) ?_
    unfold told
    rw [hb, U8.nxt_bad hb]
    have hw := U8.nxt_width h
    rw [D_len] at hw
    have hp := part_loop s hs h hb (min s.size 4) 1 (Nat.le_refl _) (by omega)
    exact Ev.bind (f := fun _ t => some (65533, t, 9)) hp (Ev.now _)
/-! the reference's -/
theorem size_ev (b : Nat) (hb : b < 256) : Ev (fun k => cringleref02_size.f k (b : Int)) (if b < 128 then 1 else if Lib.firstT b = 241 then 0 else ((Lib.firstT b % 8 : Nat) : Int)) := by
  have key : ∀ i : Fin 256, cringleref02_size.f 5 ((i.val : Nat) : Int) = some (if i.val < 128 then 1 else if Lib.firstT i.val = 241 then 0 else ((Lib.firstT i.val % 8 : Nat) : Int)) := by decide +kernel
  exact Ev.of (fun k => cringleref02_size.mono _ k) (key ⟨b, hb⟩)
theorem good_one (b : Nat) (hb : b < 256) (h0 : ¬ b < 128) (h1 : ¬ Lib.firstT b = 241) (c : Nat) : cringleref02_good.f (b : Int) 1 (c : Int) = some (decide (Lib.accLo (Lib.firstT b / 16) ≤ c ∧ c ≤ Lib.accHi (Lib.firstT b / 16))) := by
  have hc := U8.firstT_classes b
  obtain ⟨a1, a2, a3, a4, a5, a6, a7⟩ := U8.acc_of (Lib.firstT b)
  have fin : ∀ lo hi : Nat, (if (c : Int) ≥ (lo : Int) then some (decide ((c : Int) ≤ (hi : Int))) else some false) = some (decide (lo ≤ c ∧ c ≤ hi)) := fun lo hi => by
    by_cases g : (c : Int) ≥ (lo : Int)
    · rw [if_pos g]
      congr 1
      by_cases g2 : (c : Int) ≤ (hi : Int)
      · rw [decide_eq_true g2, decide_eq_true (by omega)]
      · rw [decide_eq_false g2, decide_eq_false (by omega)]
    · rw [if_neg g, decide_eq_false (by omega)]
  unfold cringleref02_good.f
  rw [if_pos rfl]
  rcases hc with ⟨hb, ht⟩ | ⟨hb, ht⟩ | ⟨hb, hb', ht⟩ | ⟨hb, ht⟩ | ⟨hb, ht⟩ | ⟨hb, ht⟩ | ⟨hb, ht⟩ | ⟨hb, hb', ht⟩ | ⟨hb, ht⟩
  · omega
  · omega
  · rw [(a1 ht).1, (a1 ht).2, if_neg (by omega), if_neg (by omega), if_neg (by omega), if_neg (by omega)]; exact fin 128 191
  · rw [(a2 ht).1, (a2 ht).2, if_pos (by omega)]; exact fin 160 191
  · rw [(a3 ht).1, (a3 ht).2, if_neg (by omega), if_neg (by omega), if_neg (by omega), if_neg (by omega)]; exact fin 128 191
  · rw [(a4 ht).1, (a4 ht).2, if_neg (by omega), if_pos (by omega)]; exact fin 128 159
  · rw [(a5 ht).1, (a5 ht).2, if_neg (by omega), if_neg (by omega), if_pos (by omega)]; exact fin 144 191
  · rw [(a6 ht).1, (a6 ht).2, if_neg (by omega), if_neg (by omega), if_neg (by omega), if_neg (by omega)]; exact fin 128 191
  · rw [(a7 ht).1, (a7 ht).2, if_neg (by omega), if_neg (by omega), if_neg (by omega), if_pos (by omega)]; exact fin 128 143
theorem good_more (b : Int) (i c : Nat) (hi : 2 ≤ i) : cringleref02_good.f b (i : Int) (c : Int) = some (decide (128 ≤ c ∧ c ≤ 191)) := by
  unfold cringleref02_good.f
  rw [if_neg (by omega)]
  by_cases g : (c : Int) ≥ 128
  · rw [if_pos g]
    congr 1
    by_cases g2 : (c : Int) ≤ 191
    · rw [decide_eq_true g2, decide_eq_true (by omega)]
    · rw [decide_eq_false g2, decide_eq_false (by omega)]
  · rw [if_neg g, decide_eq_false (by omega)]
section
variable (s : ByteArray) (z : Nat)
theorem step_good (i : Nat) (hi : 1 ≤ i) (hz : i < z) (hn : i < s.size) (hi4 : i ≤ 4) (hg : cringleref02_good.f (bt s 0) (i : Int) (bt s (i : Int)) = some true) {r : Int × Int × Int} (h : Ev (fun k => cringleref02_Next.l0 k s (z : Int) ((i + 1 : Nat) : Int)) r) : Ev (fun k => cringleref02_Next.l0 k s (z : Int) (i : Int)) r := by
  refine Ev.step (fun k => ?_) h
  simp only [cringleref02_Next.l0]
  rw [if_pos (by omega), if_pos (by omega), if_pos (by omega), if_pos (by omega), hg, Option.bind_some, if_pos rfl, next (by omega)]
theorem step_bad (i : Nat) (hi : 1 ≤ i) (hz : i < z) (hg : i < s.size → cringleref02_good.f (bt s 0) (i : Int) (bt s (i : Int)) = some false) : Ev (fun k => cringleref02_Next.l0 k s (z : Int) (i : Int)) (65533, (i : Int), 9) := by
  refine Ev.step (f := fun k => cringleref02_Next.j1 k s (z : Int) (i : Int)) (fun k => ?_) ?_
  · simp only [cringleref02_Next.l0]
    by_cases hn : i < s.size
    · rw [if_pos (by omega), if_pos (by omega), if_pos (by omega), if_pos (by omega), hg hn, Option.bind_some, if_neg (by simp)]
    · rw [if_pos (by omega), if_neg (by omega)]
  · refine Ev.step (f := fun _ => some (65533, (i : Int), 9)) (fun k => ?_) (Ev.now _)
    simp only [cringleref02_Next.j1]
    rw [if_pos (by omega)]
/-- How the number begins. -/
def head (z b : Nat) : Int := if z = 2 then (b : Int) - 192 else if z = 3 then (b : Int) - 224 else if z = 4 then (b : Int) - 240 else (b : Int)
theorem step_end (h1 : 1 ≤ z) (h4 : z ≤ 4) (hn : 0 < s.size) {r : Int × Int × Int} (h : Ev (fun k => cringleref02_Next.l1 k s (z : Int) (head z (B (D s) 0)) 1) r) : Ev (fun k => cringleref02_Next.l0 k s (z : Int) (z : Int)) r := by
  have hb := U8.B_lt (D s) 0
  have h0 : bt s 0 = ((B (D s) 0 : Nat) : Int) := bt_B s 0
  have hw : wrap32 (bt s 0) = ((B (D s) 0 : Nat) : Int) := by rw [h0]; unfold wrap32; omega
  refine Ev.step (f := fun k => cringleref02_Next.j1 k s (z : Int) (z : Int)) (fun k => ?_) ?_
  · simp only [cringleref02_Next.l0]
    rw [if_neg (by omega)]
  refine Ev.step (f := fun k => cringleref02_Next.j2 k s (z : Int) (head z (B (D s) 0))) (fun k => ?_) ?_
  · simp only [cringleref02_Next.j1]
    rw [if_neg (by omega), if_pos (by omega), hw]
    unfold head
    have hwr : ∀ m : Int, 0 ≤ m → m ≤ 240 → wrap32 (((B (D s) 0 : Nat) : Int) - m) = ((B (D s) 0 : Nat) : Int) - m := fun m _ _ => by unfold wrap32; omega
    by_cases e2 : z = 2
    · rw [if_pos (by omega), if_pos e2, hwr _ (by omega) (by omega)]
    by_cases e3 : z = 3
    · rw [if_neg (by omega), if_neg e2, if_pos (by omega), if_pos e3, hwr _ (by omega) (by omega)]
    by_cases e4 : z = 4
    · rw [if_neg (by omega), if_neg e2, if_neg (by omega), if_neg e3, if_pos (by omega), if_pos e4, hwr _ (by omega) (by omega)]
    · rw [if_neg (by omega), if_neg e2, if_neg (by omega), if_neg e3, if_neg (by omega), if_neg e4]
  · refine Ev.step (fun k => ?_) h
    simp only [cringleref02_Next.j2]
theorem step_num (i : Nat) (c : Int) (hi : i < z) (hn : i < s.size) (hc : -256 ≤ c ∧ c ≤ 1048576) (hi4 : i ≤ 4) {r : Int × Int × Int} (h : Ev (fun k => cringleref02_Next.l1 k s (z : Int) (c * 64 + (B (D s) i : Nat) - 128) ((i + 1 : Nat) : Int)) r) : Ev (fun k => cringleref02_Next.l1 k s (z : Int) c (i : Int)) r := by
  have hb := U8.B_lt (D s) i
  refine Ev.step (fun k => ?_) h
  simp only [cringleref02_Next.l1]
  rw [if_pos (by omega), if_pos (by omega), if_pos (by omega), bt_B, next (by omega)]
  have e1 : wrap32 (c * 64) = c * 64 := by unfold wrap32; omega
  have e2 : wrap32 (((B (D s) i : Nat) : Int)) = ((B (D s) i : Nat) : Int) := by unfold wrap32; omega
  rw [e1, e2]
  have e3 : wrap32 (c * 64 + ((B (D s) i : Nat) : Int)) = c * 64 + ((B (D s) i : Nat) : Int) := by unfold wrap32; omega
  rw [e3]
  have e4 : wrap32 (c * 64 + ((B (D s) i : Nat) : Int) - 128) = c * 64 + ((B (D s) i : Nat) : Int) - 128 := by unfold wrap32; omega
  rw [e4]
theorem step_told (i : Nat) (c : Int) (hi : ¬ i < z) : Ev (fun k => cringleref02_Next.l1 k s (z : Int) c (i : Int)) (c, (z : Int), 0) := by
  refine Ev.step (f := fun _ => some (c, (z : Int), 0)) (fun k => ?_) (Ev.now _)
  simp only [cringleref02_Next.l1]
  rw [if_neg (by omega)]
end
theorem lead (b : Nat) (h : ¬ b < 128) (ht : ¬ Lib.firstT b = 241) : 2 ≤ Lib.firstT b % 8 ∧ Lib.firstT b % 8 ≤ 4 ∧ 128 ≤ Lib.accLo (Lib.firstT b / 16) ∧ Lib.accHi (Lib.firstT b / 16) ≤ 191 ∧ (Lib.firstT b % 8 = 2 → 194 ≤ b ∧ b < 224) ∧ (Lib.firstT b % 8 = 3 → 224 ≤ b ∧ b < 240) ∧ (Lib.firstT b % 8 = 4 → 240 ≤ b ∧ b ≤ 244) := by
  rcases U8.firstT_classes b with ⟨hb, e⟩ | ⟨hb, e⟩ | ⟨hb, hb', e⟩ | ⟨hb, e⟩ | ⟨hb, e⟩ | ⟨hb, e⟩ | ⟨hb, e⟩ | ⟨hb, hb', e⟩ | ⟨hb, e⟩
  · omega
  · omega
  all_goals
    rw [e]
    refine ⟨by decide, by decide, by decide, by decide, fun k => ?_, fun k => ?_, fun k => ?_⟩ <;> first | omega | (exfalso; revert k; decide)
set_option maxHeartbeats 1000000 in
theorem rnext_ev (s : ByteArray) (hs : s.size ≤ 1000000000000000000) (h : D s ≠ []) : Ev (fun k => cringleref02_Next.f k s) (told (nxt (D s))) := by
  have hn0 : 0 < s.size := by rw [← D_len]; exact List.length_pos_iff.2 h
  have h0 : bt s 0 = ((B (D s) 0 : Nat) : Int) := bt_B s 0
  have hb0 := U8.B_lt (D s) 0
  have hb1 := U8.B_lt (D s) 1
  have hb2 := U8.B_lt (D s) 2
  have hb3 := U8.B_lt (D s) 3
  unfold cringleref02_Next.f
  refine Ev.congr (fun k => if_neg (fun e => h ((D_nil s).1 e))) ?_
  refine Ev.congr (fun k => if_pos (by omega)) ?_
  rw [h0]
  refine Ev.bind (size_ev _ hb0) ?_
  unfold told nxt spec
  rw [D_len]
  by_cases hb : B (D s) 0 < 128
  · simp only [if_pos hb]
    refine Ev.congr (fun k => if_neg (by decide)) ?_
    refine step_end s 1 (by omega) (by omega) hn0 ?_
    exact step_told s 1 1 _ (by omega)
  simp only [if_neg hb]
  by_cases ht : Lib.firstT (B (D s) 0) = 241
  · simp only [if_pos ht]
    exact Ev.congr (fun k => if_pos trivial) (Ev.now _)
  simp only [if_neg ht]
  obtain ⟨z1, z2, z3, z4, z5, z6, z7⟩ := lead _ hb ht
  refine Ev.congr (fun k => if_neg (by omega)) ?_
  have g1 := good_one (B (D s) 0) hb0 hb ht (B (D s) 1)
  rw [← h0, ← bt_B s 1] at g1
  by_cases b1 : s.size ≤ 1 ∨ B (D s) 1 < Lib.accLo (Lib.firstT (B (D s) 0) / 16) ∨ Lib.accHi (Lib.firstT (B (D s) 0) / 16) < B (D s) 1
  · rw [if_pos b1]
    refine step_bad s _ 1 (by omega) (by omega) (fun hlt => ?_)
    exact g1.trans (congrArg some (decide_eq_false (by omega)))
  rw [if_neg b1]
  refine step_good s _ 1 (by omega) (by omega) (by omega) (by omega) (g1.trans (congrArg some (decide_eq_true (by omega)))) ?_
  by_cases s2 : Lib.firstT (B (D s) 0) % 8 ≤ 2
  · rw [if_pos s2]
    have hz2 : Lib.firstT (B (D s) 0) % 8 = 2 := by omega
    have y := z5 hz2
    clear z5 z6 z7
    generalize Lib.accLo (Lib.firstT (B (D s) 0) / 16) = lo at *
    generalize Lib.accHi (Lib.firstT (B (D s) 0) / 16) = hi at *
    rw [hz2]
    refine step_end s 2 (by omega) (by omega) hn0 ?_
    have hh : head 2 (B (D s) 0) = ((B (D s) 0 : Nat) : Int) - 192 := rfl
    rw [hh]
    refine step_num s 2 1 _ (by omega) (by omega) (by omega) (by omega) ?_
    have hv : (((B (D s) 0 : Nat) : Int) - 192) * 64 + ((B (D s) 1 : Nat) : Int) - 128 = ((B (D s) 0 % 32 * 64 + B (D s) 1 % 64 : Nat) : Int) := by omega
    rw [hv]
    exact step_told s 2 2 _ (by omega)
  rw [if_neg s2]
  have g2 := good_more (bt s 0) 2 (B (D s) 2) (by omega)
  rw [← bt_B s 2] at g2
  by_cases b2 : s.size ≤ 2 ∨ B (D s) 2 < 128 ∨ 191 < B (D s) 2
  · rw [if_pos b2]
    refine step_bad s _ 2 (by omega) (by omega) (fun hlt => ?_)
    exact g2.trans (congrArg some (decide_eq_false (by omega)))
  rw [if_neg b2]
  refine step_good s _ 2 (by omega) (by omega) (by omega) (by omega) (g2.trans (congrArg some (decide_eq_true (by omega)))) ?_
  by_cases s3 : Lib.firstT (B (D s) 0) % 8 ≤ 3
  · rw [if_pos s3]
    have hz3 : Lib.firstT (B (D s) 0) % 8 = 3 := by omega
    have y := z6 hz3
    clear z5 z6 z7
    generalize Lib.accLo (Lib.firstT (B (D s) 0) / 16) = lo at *
    generalize Lib.accHi (Lib.firstT (B (D s) 0) / 16) = hi at *
    rw [hz3]
    refine step_end s 3 (by omega) (by omega) hn0 ?_
    have hh : head 3 (B (D s) 0) = ((B (D s) 0 : Nat) : Int) - 224 := rfl
    rw [hh]
    refine step_num s 3 1 _ (by omega) (by omega) (by omega) (by omega) ?_
    refine step_num s 3 2 _ (by omega) (by omega) (by omega) (by omega) ?_
    have hv : ((((B (D s) 0 : Nat) : Int) - 224) * 64 + ((B (D s) 1 : Nat) : Int) - 128) * 64 + ((B (D s) 2 : Nat) : Int) - 128 = ((B (D s) 0 % 16 * 4096 + B (D s) 1 % 64 * 64 + B (D s) 2 % 64 : Nat) : Int) := by omega
    rw [hv]
    exact step_told s 3 3 _ (by omega)
  rw [if_neg s3]
  have hz4 : Lib.firstT (B (D s) 0) % 8 = 4 := by omega
  have y := z7 hz4
  clear z5 z6 z7
  generalize Lib.accLo (Lib.firstT (B (D s) 0) / 16) = lo at *
  generalize Lib.accHi (Lib.firstT (B (D s) 0) / 16) = hi at *
  rw [hz4]
  have g3 := good_more (bt s 0) 3 (B (D s) 3) (by omega)
  rw [← bt_B s 3] at g3
  by_cases b3 : s.size ≤ 3 ∨ B (D s) 3 < 128 ∨ 191 < B (D s) 3
  · rw [if_pos b3]
    refine step_bad s _ 3 (by omega) (by omega) (fun hlt => ?_)
    exact g3.trans (congrArg some (decide_eq_false (by omega)))
  rw [if_neg b3]
  refine step_good s _ 3 (by omega) (by omega) (by omega) (by omega) (g3.trans (congrArg some (decide_eq_true (by omega)))) ?_
  refine step_end s 4 (by omega) (by omega) hn0 ?_
  have hh : head 4 (B (D s) 0) = ((B (D s) 0 : Nat) : Int) - 240 := rfl
  rw [hh]
  refine step_num s 4 1 _ (by omega) (by omega) (by omega) (by omega) ?_
  refine step_num s 4 2 _ (by omega) (by omega) (by omega) (by omega) ?_
  refine step_num s 4 3 _ (by omega) (by omega) (by omega) (by omega) ?_
  have hv : (((((B (D s) 0 : Nat) : Int) - 240) * 64 + ((B (D s) 1 : Nat) : Int) - 128) * 64 + ((B (D s) 2 : Nat) : Int) - 128) * 64 + ((B (D s) 3 : Nat) : Int) - 128 = ((B (D s) 0 % 8 * 262144 + B (D s) 1 % 64 * 4096 + B (D s) 2 % 64 * 64 + B (D s) 3 % 64 : Nat) : Int) := by omega
  rw [hv]
  exact step_told s 4 4 _ (by omega)
end Go.Proofs.YtopaheopdpkjbaaDoor.Plain

namespace Go.Proofs.YtopaheopdpkjbaaDoor.Plain
open Go.RowKit Go.Proofs.YtopaheopdpkjbaaDoor.Q Go.Proofs.YtopaheopdpkjbaaDoorW.PrintWords Go.Proofs.YtopaheopdpkjbaaDoorW.PrintLast Go.Proofs.YtopaheopdpkjbaaDoorW.PrintMore
open Go.Proofs.YtopaheopdpkjbaaDoor.U8 (B nxt spec encB items text mend signs Right)
set_option linter.unusedVariables false
/-! is it a text -/
theorem enc_mend : encB 65533 = [239, 191, 189] := by decide
theorem prefix_mend (l : List UInt8) (h : Lib.hasPrefix l [239, 191, 189] = true) : (nxt l).2.2 = true := by
  obtain ⟨r, rfl⟩ := List.isPrefixOf_iff_prefix.1 h
  rw [show ([239, 191, 189] : List UInt8) = encB 65533 from enc_mend.symm, U8.nxt_enc _ U8.right_65533]
theorem extract_from (s : ByteArray) (pos : Nat) : (s.extract pos s.size).data.toList = (D s).drop pos := D_from s pos
theorem isTextN_D (s : ByteArray) : ∀ (b pos : Nat), s.size ≤ pos + b → Utfs.isTextN s b pos = text ((D s).drop pos) := by
  intro b
  induction b with
  | zero =>
    intro pos h
    rw [List.drop_of_length_le (by rw [D_len]; omega)]
    rfl
  | succ b ih =>
    intro pos h
    by_cases hp : pos < s.size
    · have hne : (D s).drop pos ≠ [] := by
        intro e
        have := congrArg List.length e
        rw [List.length_drop, D_len, List.length_nil] at this
        omega
      have hw := U8.nxt_width hne
      rw [U8.text_cons hne, List.drop_drop]
      simp only [Utfs.isTextN, if_pos hp]
      rw [decode_B s pos hp, extract_from]
      cases hb : (nxt ((D s).drop pos)).2.2 with
      | true =>
        simp only [if_true, Bool.true_and]
        have : ¬ ((nxt ((D s).drop pos)).1 = 65533 ∧ Lib.hasPrefix ((D s).drop pos) [239, 191, 189] = false) := by
          rintro ⟨e1, e2⟩
          have h1 := (U8.nxt_ok hne hb).2
          rw [e1, enc_mend] at h1
          have h3 : Lib.hasPrefix ((D s).drop pos) [239, 191, 189] = true := by
            rw [h1]
            exact List.isPrefixOf_iff_prefix.2 (List.take_prefix _ _)
          rw [h3] at e2
          cases e2
        rw [if_neg this]
        exact ih _ (by omega)
      | false =>
        simp only [Bool.false_eq_true, if_false, Bool.false_and]
        rw [if_pos]
        refine ⟨trivial, ?_⟩
        cases hx : Lib.hasPrefix ((D s).drop pos) [239, 191, 189] with
        | false => rfl
        | true => rw [prefix_mend _ hx] at hb; cases hb
    · rw [Utfs.isTextN_end s _ _ hp, List.drop_of_length_le (by rw [D_len]; omega)]
      rfl
theorem istext_eq (s : ByteArray) : utf_IsText.f s = some (text (D s)) := by
  unfold utf_IsText.f
  rw [isTextN_D s s.size 0 (by omega), List.drop_zero]
theorem suffix_ne {s : ByteArray} (h : ¬ D s = []) : (s.size : Int) > 0 := by
  have := List.length_pos_iff.2 h
  rw [D_len] at this
  omega
theorem suffix_nil {s : ByteArray} (h : D s = []) : s.size = 0 := by rw [← D_len, h]; rfl
theorem cut_off {s : ByteArray} {w : Nat} : D (s.extract ((w : Nat) : Int).toNat s.size) = (D s).drop w := by rw [Int.toNat_natCast, D_from]
theorem cut_size {s : ByteArray} {w : Nat} : (s.extract ((w : Nat) : Int).toNat s.size).size = s.size - w := by rw [← D_len, cut_off, List.length_drop, D_len]
theorem told_zero (p : Nat × Nat × Bool) : ((told p).2.2 = 0) ↔ p.2.2 = true := by
  unfold told
  cases p.2.2 <;> simp
theorem ristext_ev : ∀ (l : List UInt8) (s : ByteArray), D s = l → s.size ≤ 140737488351232 → Ev (fun k => cringleref02_IsText.l0 k s) (text l) := by
  refine U8.items_ind (fun s h hs => ?_) (fun l hl ih s h hs => ?_)
  · refine Ev.step (f := fun _ => some true) (fun k => ?_) (Ev.now _)
    simp only [cringleref02_IsText.l0]
    rw [if_neg (by have := suffix_nil h; omega)]
  · subst h
    have hw := U8.nxt_width hl
    rw [D_len] at hw
    rw [U8.text_cons hl]
    refine Ev.step (fun k => by simp only [cringleref02_IsText.l0]; rw [if_pos (suffix_ne hl)]) ?_
    refine Ev.bind (rnext_ev s (by omega) hl) ?_
    cases hb : (nxt (D s)).2.2 with
    | true =>
      refine Ev.congr (fun k => if_pos ((told_zero _).2 hb)) ?_
      refine Ev.congr (fun k => if_pos (Int.natCast_nonneg _)) ?_
      refine Ev.congr (fun k => if_pos (by show (((nxt (D s)).2.1 : Nat) : Int) ≤ _; omega)) ?_
      rw [Bool.true_and]
      exact ih _ cut_off (by show (s.extract (((nxt (D s)).2.1 : Nat) : Int).toNat s.size).size ≤ _; rw [cut_size]; omega)
    | false =>
      refine Ev.congr (fun k => if_neg (fun e => by rw [(told_zero _).1 e] at hb; cases hb)) ?_
      exact Ev.now _
/-! put -/
theorem rright_eq (c : Int) : cringleref02_Right.f c = some (decide (Right c)) := by
  unfold cringleref02_Right.f
  have hf : (¬ (0 ≤ c ∧ c ≤ 1114111 ∧ (c < 55296 ∨ 57343 < c))) → some false = some (decide (Right c)) := fun h => congrArg some (decide_eq_false h).symm
  have ht : (0 ≤ c ∧ c ≤ 1114111 ∧ (c < 55296 ∨ 57343 < c)) → some true = some (decide (Right c)) := fun h => congrArg some (decide_eq_true (p := Right c) h).symm
  by_cases h0 : c ≥ 0
  · rw [if_pos h0]
    by_cases h1 : c ≤ 1114111
    · rw [if_pos h1]
      by_cases h2 : c < 55296
      · rw [if_pos h2]
        exact ht (by omega)
      · rw [if_neg h2]
        by_cases h3 : c > 57343
        · rw [decide_eq_true h3]
          exact ht (by omega)
        · rw [decide_eq_false h3]
          exact hf (by omega)
    · rw [if_neg h1]
      exact hf (by omega)
  · rw [if_neg h0]
    exact hf (by omega)
theorem div64 {c : Int} (h : 0 ≤ c) : Int.tdiv c 64 = c / 64 := Int.tdiv_eq_ediv_of_nonneg h
theorem div4096 {c : Int} (h : 0 ≤ c) : Int.tdiv c 4096 = c / 4096 := Int.tdiv_eq_ediv_of_nonneg h
theorem div262144 {c : Int} (h : 0 ≤ c) : Int.tdiv c 262144 = c / 262144 := Int.tdiv_eq_ediv_of_nonneg h
theorem mod64' {c : Int} (h : 0 ≤ c) : Int.tmod c 64 = c % 64 := Int.tmod_eq_emod_of_nonneg h
theorem rone_right (c : Int) (h : Right c) (k : Nat) : cringleref02_one.f (k + 1) c = some (Lib.encodeRuneZ c) := by
  obtain ⟨h0, h1, h2⟩ := h
  simp only [cringleref02_one.f]
  rw [rright_eq, decide_eq_true ⟨h0, h1, h2⟩, Option.bind_some, if_pos rfl]
  have hw : ∀ x : Int, 0 ≤ x → x ≤ 1114111 → wrap32 x = x := fun x _ _ => by unfold wrap32; omega
  by_cases c1 : c < 128
  · rw [if_pos c1, Lib.encodeRuneZ_one h0 (by omega)]
    exact congrArg some (U8.cons2 (by omega) rfl)
  rw [if_neg c1]
  by_cases c2 : c < 2048
  · rw [if_pos c2, Lib.encodeRuneZ_two (by omega) (by omega), div64 h0, mod64' h0, hw _ (by omega) (by omega)]
    exact congrArg some (U8.cons2 (by omega) (U8.cons2 (by omega) rfl))
  rw [if_neg c2]
  by_cases c3 : c < 65536
  · rw [if_pos c3, Lib.encodeRuneZ_three (by omega), div4096 h0, div64 h0, mod64' h0, hw _ (by omega) (by omega), hw _ (by omega) (by omega), mod64' (by omega)]
    exact congrArg some (U8.cons2 (by omega) (U8.cons2 (by omega) (U8.cons2 (by omega) rfl)))
  · rw [if_neg c3, Lib.encodeRuneZ_four (by omega) (by omega), div262144 h0, div4096 h0, div64 h0, mod64' h0, hw _ (by omega) (by omega), hw _ (by omega) (by omega), hw _ (by omega) (by omega), mod64' (by omega), mod64' (by omega)]
    exact congrArg some (U8.cons2 (by omega) (U8.cons2 (by omega) (U8.cons2 (by omega) (U8.cons2 (by omega) rfl))))
theorem rone_ev (c : Int) : Ev (fun k => cringleref02_one.f k c) (Lib.encodeRuneZ c) := by
  by_cases h : Right c
  · exact Ev.step (f := fun _ => some (Lib.encodeRuneZ c)) (fun k => rone_right c h k) (Ev.now _)
  · refine Ev.step (f := fun k => (cringleref02_one.f k 65533).bind fun t => some t) (fun k => ?_) ?_
    · simp only [cringleref02_one.f]
      rw [rright_eq, decide_eq_false h, Option.bind_some, if_neg (by simp)]
    · have hb : Lib.encodeRuneZ c = [239, 191, 189] := Lib.encodeRuneZ_bad (by unfold Right at h; omega)
      rw [hb]
      refine Ev.bind (a := [239, 191, 189]) (Ev.step (f := fun _ => some [239, 191, 189]) (fun k => ?_) (Ev.now _)) (Ev.now _)
      rw [rone_right 65533 (by decide) k]
      rfl
theorem encZ_le (c : Int) : (Lib.encodeRuneZ c).length ≤ 4 := by
  unfold Lib.encodeRuneZ
  repeat' split
  all_goals simp
theorem encZ_byte {c x : Int} (h : x ∈ Lib.encodeRuneZ c) : 0 ≤ x ∧ x < 256 := by
  unfold Lib.encodeRuneZ at h
  repeat' split at h
  all_goals simp at h
  all_goals omega
def putZ (l : List Int) : List Int := l.flatMap Lib.encodeRuneZ
theorem putZ_le (l : List Int) : (putZ l).length ≤ 4 * l.length := by
  induction l with
  | nil => simp [putZ]
  | cons c l ih =>
    have := encZ_le c
    simp only [putZ, List.flatMap_cons, List.length_append, List.length_cons] at ih ⊢
    omega
theorem append_eq (l : List Int) (c : Int) (h0 : -2147483648 ≤ c) (h1 : c < 2147483648) (hl : l.length + 4 ≤ 140737488355328) : utf8_AppendRune.f l c = some (l ++ Lib.encodeRuneZ c) := by
  unfold utf8_AppendRune.f
  rw [if_pos h0, if_pos (by omega), if_pos hl]
/-! mended -/
theorem putZ_mend (l : List UInt8) : (putZ (signs l)).map (fun n => UInt8.ofNat n.toNat) = mend l := by
  unfold putZ signs mend encB
  rw [List.flatMap_map, List.map_flatMap]
theorem signs_le : ∀ l : List UInt8, (signs l).length ≤ l.length := by
  refine U8.items_ind (by simp [signs, items, U8.itemsN]) (fun l hl ih => ?_)
  have hw := U8.nxt_width hl
  rw [U8.signs_cons hl, List.length_cons]
  rw [List.length_drop] at ih
  omega
theorem signs_range : ∀ l : List UInt8, ∀ x ∈ signs l, -2147483648 ≤ x ∧ x < 2147483648 := by
  refine U8.items_ind (by simp [signs, items, U8.itemsN]) (fun l hl ih => ?_)
  rw [U8.signs_cons hl]
  intro x hx
  rcases List.mem_cons.1 hx with rfl | hx
  · have h := U8.nxt_right hl
    unfold Right at h
    omega
  · exact ih x hx
/-- A text of bytes told by whole numbers. -/
def strOf (l : List UInt8) : ByteArray := ⟨l.toArray⟩
theorem D_str (l : List UInt8) : D (strOf l) = l := rfl
theorem str_D (s : ByteArray) : strOf (D s) = s := D_inj rfl
theorem str_nums (l : List Int) : strOfNums l = strOf (l.map fun n => UInt8.ofNat n.toNat) := rfl
theorem str_put (s : List UInt8) : strOfNums (putZ (signs s)) = strOf (mend s) := by rw [str_nums, putZ_mend]
theorem repair_loop : ∀ (l : List UInt8) (s : ByteArray) (a : List Int), D s = l → s.size ≤ 1000000000 → a.length + 4 * s.size + 4 ≤ 140737488355328 → Ev (fun k => utf_Repair.l0 k s a) (strOfNums (a ++ putZ (signs l))) := by
  refine U8.items_ind (fun s a h hs ha => ?_) (fun l hl ih s a h hs ha => ?_)
  · refine Ev.step (f := fun _ => some (strOfNums (a ++ putZ (signs [])))) (fun k => ?_) (Ev.now _)
    simp only [utf_Repair.l0]
    rw [if_pos ((D_nil s).2 h)]
    simp [putZ, signs, items, U8.itemsN]
  · subst h
    have hw := U8.nxt_width hl
    rw [D_len] at hw
    have hr := U8.nxt_right hl
    unfold Right at hr
    have hle := encZ_le ((nxt (D s)).1 : Int)
    have hh := ih (s.extract (((nxt (D s)).2.1 : Nat) : Int).toNat s.size) (a ++ Lib.encodeRuneZ ((nxt (D s)).1 : Int)) cut_off (by rw [cut_size]; omega) (by rw [cut_size, List.length_append]; omega)
    rw [List.append_assoc] at hh
    rw [U8.signs_cons hl, show putZ (((nxt (D s)).1 : Int) :: signs ((D s).drop (nxt (D s)).2.1)) = Lib.encodeRuneZ ((nxt (D s)).1 : Int) ++ putZ (signs ((D s).drop (nxt (D s)).2.1)) from rfl]
    refine Ev.step (fun k => by simp only [utf_Repair.l0]; rw [if_neg (fun e => hl ((D_nil s).1 e))]) ?_
    refine Ev.bind (next_ev s (by omega) hl) ?_
    unfold told
    dsimp only
    refine Ev.congr (fun k => by rw [append_eq _ _ (by omega) (by omega) (by omega), Option.bind_some, if_pos (Int.natCast_nonneg _), if_pos (by omega)]) hh
theorem repair_ev (s : ByteArray) (hs : s.size ≤ 1000000000) : Ev (fun k => utf_Repair.f k s) (strOf (mend (D s))) := by
  unfold utf_Repair.f
  rw [istext_eq]
  simp only [Option.bind_some]
  cases h : text (D s) with
  | true =>
    rw [U8.mend_text _ h, str_D]
    exact Ev.congr (fun k => if_pos rfl) (Ev.now _)
  | false =>
    refine Ev.congr (fun k => if_neg (by simp)) ?_
    have := repair_loop (D s) s [] rfl hs (by simp; omega)
    rw [List.nil_append, str_put] at this
    exact this
theorem rrepair_loop : ∀ (l : List UInt8) (s : ByteArray) (a : List Int), D s = l → s.size ≤ 1000000000 → a.length + 4 * s.size + 4 ≤ 140737488355328 → Ev (fun k => cringleref02_Repair.l0 k s a) (strOfNums (a ++ putZ (signs l))) := by
  refine U8.items_ind (fun s a h hs ha => ?_) (fun l hl ih s a h hs ha => ?_)
  · refine Ev.step (f := fun _ => some (strOfNums (a ++ putZ (signs [])))) (fun k => ?_) (Ev.now _)
    simp only [cringleref02_Repair.l0]
    rw [if_neg (by have := suffix_nil h; omega)]
    simp [putZ, signs, items, U8.itemsN]
  · subst h
    have hw := U8.nxt_width hl
    rw [D_len] at hw
    have hle := encZ_le ((nxt (D s)).1 : Int)
    have hh := ih (s.extract (((nxt (D s)).2.1 : Nat) : Int).toNat s.size) (a ++ Lib.encodeRuneZ ((nxt (D s)).1 : Int)) cut_off (by rw [cut_size]; omega) (by rw [cut_size, List.length_append]; omega)
    rw [List.append_assoc] at hh
    rw [U8.signs_cons hl, show putZ (((nxt (D s)).1 : Int) :: signs ((D s).drop (nxt (D s)).2.1)) = Lib.encodeRuneZ ((nxt (D s)).1 : Int) ++ putZ (signs ((D s).drop (nxt (D s)).2.1)) from rfl]
    refine Ev.step (fun k => by simp only [cringleref02_Repair.l0]; rw [if_pos (suffix_ne hl)]) ?_
    refine Ev.bind (rnext_ev s (by omega) hl) ?_
    unfold told
    dsimp only
    refine Ev.bind (rone_ev _) ?_
    refine Ev.congr (fun k => by rw [if_pos (by omega), if_pos (Int.natCast_nonneg _), if_pos (by omega)]) hh
theorem rrepair_ev (s : ByteArray) (hs : s.size ≤ 1000000000) : Ev (fun k => cringleref02_Repair.f k s) (strOf (mend (D s))) := by
  have := rrepair_loop (D s) s [] rfl hs (by simp; omega)
  rw [List.nil_append, str_put] at this
  exact this
/-! signs -/
/-! cuts -/
theorem D_drop_cons {s : ByteArray} {at_ : Nat} (h : at_ < s.size) : (D s).drop at_ ≠ [] := by
  intro e
  have := congrArg List.length e
  rw [List.length_drop, D_len, List.length_nil] at this
  omega
end Go.Proofs.YtopaheopdpkjbaaDoor.Plain

namespace Go.Proofs.YtopaheopdpkjbaaDoor.Plain
open Go.RowKit Go.Proofs.YtopaheopdpkjbaaDoor.Q Go.Proofs.YtopaheopdpkjbaaDoorW.PrintWords Go.Proofs.YtopaheopdpkjbaaDoorW.PrintLast Go.Proofs.YtopaheopdpkjbaaDoorW.PrintMore
open Go.Proofs.YtopaheopdpkjbaaDoor.U8 (B nxt spec encB items text mend signs Right)
open Go.Proofs.YtopaheopdpkjbaaDoor.Rf
open Go.Proofs.YtopaheopdpkjbaaDoor.Pc (un mk hx sub one read sp join pair pairs parse form)
set_option linter.unusedVariables false
theorem now_of {α : Type} {o : Option α} {r : α} (h : o = some r) : Ev (fun _ => o) r := ⟨0, fun _ _ => h⟩
theorem list_same {a b : ByteArray} (h : D a = D b) : a.toList = b.toList := by rw [Lib.toList_data, Lib.toList_data]; exact h
theorem bt_get (s : ByteArray) (i : Nat) (h : i < (D s).length) : bt s (i : Int) = (((D s)[i].toNat : Nat) : Int) := by
  have h' : i < s.size := by rw [D_len] at h; exact h
  unfold bt
  rw [Int.toNat_natCast, dif_pos h']
  rfl
theorem strOf_size (l : List UInt8) : (strOf l).size = l.length := by rw [← D_len, D_str]
theorem str_cat2 (a b : List UInt8) : strOf a ++ strOf b = strOf (a ++ b) := D_inj (by
  show (strOf a ++ strOf b).data.toList = a ++ b
  simp [strOf])
def nm (l : List UInt8) : List Int := l.map fun b => (b.toNat : Int)
theorem nm_append (a b : List UInt8) : nm (a ++ b) = nm a ++ nm b := List.map_append
theorem nm_len (a : List UInt8) : (nm a).length = a.length := List.length_map _
theorem str_nm (l : List UInt8) : strOfNums (nm l) = strOf l := by
  apply D_inj
  rw [D_str]
  show (strOfNums (nm l)).data.toList = l
  rw [strOfNums_data]
  unfold nm
  rw [List.map_map]
  conv => rhs; rw [← List.map_id l]
  refine List.map_congr_left fun x hx => ?_
  simp
theorem prefix_eq (p l : List UInt8) : p.isPrefixOf l = (decide (p.length ≤ l.length) && (l.take p.length == p)) := by
  by_cases h : p.isPrefixOf l = true
  · have h1 := List.isPrefixOf_iff_prefix.1 h
    rw [h, decide_eq_true h1.length_le, ← List.prefix_iff_eq_take.1 h1]
    simp
  · rw [Bool.eq_false_iff.mpr h]
    symm
    rw [Bool.and_eq_false_iff]
    by_cases hl : p.length ≤ l.length
    · right
      refine beq_eq_false_iff_ne.2 (fun e => h (List.isPrefixOf_iff_prefix.2 ?_))
      rw [← e]
      exact List.take_prefix _ _
    · left
      exact decide_eq_false hl
theorem pre_of (s p : ByteArray) : (if (s.size : Int) ≥ (p.size : Int) then (if 0 ≤ (p.size : Int) then (if (p.size : Int) ≤ (s.size : Int) then (some ((s.extract 0 ((p.size : Int) : Int).toNat).toList == p.toList)) else (none)) else (none)) else (some false)) = some ((D p).isPrefixOf (D s)) := by
  rw [prefix_eq, D_len, D_len]
  by_cases h : p.size ≤ s.size
  · rw [if_pos (by omega), if_pos (by omega), if_pos (by omega), Int.toNat_natCast, Lib.toList_data, Lib.toList_data, decide_eq_true h, Bool.true_and]
    show some (D (s.extract 0 p.size) == D p) = _
    rw [D_to]
  · rw [if_neg (by omega), decide_eq_false h]
    rfl
theorem cutPrefix_eq (s p : ByteArray) : strings_CutPrefix.f s p = some (if (D p).isPrefixOf (D s) = true then (strOf ((D s).drop p.size), true) else (s, false)) := by
  unfold strings_CutPrefix.f stringslite_CutPrefix.f stringslite_HasPrefix.f
  rw [pre_of]
  simp only [Option.bind_some]
  by_cases h : (D p).isPrefixOf (D s) = true
  · have := prefix_len h
    rw [D_len, D_len] at this
    rw [if_pos h, if_pos h, if_pos (by omega), if_pos (by omega), Int.toNat_natCast]
    simp only [Option.bind_some]
    congr 2
    exact D_inj (by rw [D_from]; rfl)
  · rw [if_neg h, if_neg h]
    rfl
theorem rall_byte (s : ByteArray) (b : UInt8) (new : List UInt8) (hne : [b] ≠ new) (hn : new.length ≤ 6) (hs : s.size ≤ 100000000) : strings_ReplaceAll.f s (strOf [b]) (strOf new) = some (strOf (rep1 b new (D s))) := by
  have hc : Lib.countB s (strOf [b]) ≤ s.size + 1 := by
    have := Lib.count_le s.data.toList (strOf [b]).data.toList
    rw [show s.data.toList.length = s.size from D_len s] at this
    exact this
  have hns : (strOf new).size = new.length := by rw [← D_len, D_str]
  have hmul : Lib.countB s (strOf [b]) * (strOf new).size ≤ (s.size + 1) * 6 := by rw [hns]; exact Nat.mul_le_mul hc hn
  unfold strings_ReplaceAll.f
  rw [if_pos (by omega), if_pos (by show 1 ≤ 1; omega), if_pos (by omega)]
  exact congrArg (fun l => some (strOf l)) (replaceAll_one (D s) b new hne)
/-! marked -/
theorem index_ge (l : List UInt8) (c : UInt8) : 0 ≤ Lib.indexByte l c ↔ c ∈ l := by
  rw [← Lib.index_one, index_byte]
  by_cases h : c ∈ l
  · rw [if_pos h]; exact ⟨fun _ => h, fun _ => by omega⟩
  · rw [if_neg h]; exact ⟨fun q => by omega, fun q => absurd q h⟩
theorem plain_all : ∀ c : Fin 256, percent_isPlain.f ((c.val : Nat) : Int) = some (Pc.plain c.val) := by decide +kernel
theorem plain_eq (c : UInt8) : percent_isPlain.f ((c.toNat : Nat) : Int) = some (Pc.plain c.toNat) := plain_all ⟨c.toNat, c.toNat_lt⟩
theorem rplain_all : ∀ c : Fin 256, cringleref03_plain.f ((c.val : Nat) : Int) = some (Pc.plain c.val) := by decide +kernel
theorem rplain_eq (c : UInt8) : cringleref03_plain.f ((c.toNat : Nat) : Int) = some (Pc.plain c.toNat) := rplain_all ⟨c.toNat, c.toNat_lt⟩
theorem rmark_all : ∀ c : Fin 256, cringleref03_mark.f ((c.val : Nat) : Int) = some (strOf [37, hx.getD (c.val / 16) 0, hx.getD (c.val % 16) 0]) := by decide +kernel
theorem rmark_eq (c : UInt8) : cringleref03_mark.f ((c.toNat : Nat) : Int) = some (strOf (mk c)) := rmark_all ⟨c.toNat, c.toNat_lt⟩
theorem one_eq (f : ByteArray) (c : UInt8) : percent_Mark.one f c = one (D f) c := by
  have h : (percent_isPlain.f (c.toNat : Int) = some true ∨ 0 ≤ Lib.indexByte f.data.toList c) ↔ (Pc.plain c.toNat = true ∨ c ∈ D f) := by
    rw [plain_eq, index_ge]
    simp
  unfold percent_Mark.one Pc.one
  by_cases hc : Pc.plain c.toNat = true ∨ c ∈ D f
  · rw [if_pos hc, if_pos (h.2 hc)]
  · rw [if_neg hc, if_neg (fun q => hc (h.1 q))]
    rfl
theorem mark_eq (s f : ByteArray) (hs : s.size ≤ 1000000000) : percent_Mark.f s f = some (strOf (Pc.mark (D f) (D s))) := by
  unfold percent_Mark.f
  rw [if_pos hs]
  show some (strOf ((D s).flatMap (percent_Mark.one f))) = some (strOf ((D s).flatMap (one (D f))))
  rw [show percent_Mark.one f = one (D f) from funext (one_eq f)]
theorem rmark_in (s f : ByteArray) (acc : ByteArray) (i : Nat) (c : UInt8) (hi : i < (D s).length) (hc : (D s)[i] = c) (hs : s.size ≤ 1000000000) (hf : f.size ≤ 1000000000) {r : ByteArray}
    (d : Nat) : ∀ (j : Nat) (b : Bool), j + d = f.size → Ev (fun k => cringleref03_Mark.l1 k s f acc (i : Int) (b || ((D f).drop j).contains c) (f.size : Int)) r → Ev (fun k => cringleref03_Mark.l1 k s f acc (i : Int) b (j : Int)) r := by
  have hl := D_len f
  have hls := D_len s
  induction d with
  | zero =>
    intro j b hj h
    rw [List.drop_of_length_le (by omega), show (b || List.contains [] c) = b from by simp, show (f.size : Int) = (j : Int) from by omega] at h
    exact h
  | succ d ih =>
    intro j b hj h
    have hlt : j < (D f).length := by omega
    rw [drop_at hlt, List.contains_cons] at h
    cases b with
    | true =>
      refine Ev.step (fun k => ?_) (ih (j + 1) true (by omega) (by simpa using h))
      simp only [cringleref03_Mark.l1]
      rw [if_pos (by omega), if_pos trivial, next (by omega)]
    | false =>
      refine Ev.step (fun k => ?_) (ih (j + 1) (c == (D f)[j]) (by omega) (by simpa using h))
      simp only [cringleref03_Mark.l1]
      rw [if_pos (by omega), if_neg (by simp), if_pos (by omega), if_pos (by omega), if_pos (by omega), next (by omega), bt_get f j hlt, bt_get s i hi, hc]
      congr 1
      by_cases e : c = (D f)[j]
      · rw [← e]; simp
      · have e2 : ¬ ((((D f)[j].toNat : Nat) : Int) = ((c.toNat : Nat) : Int)) := fun q => e (UInt8.toNat_inj.1 (by omega))
        rw [beq_eq_false_iff_ne.2 e2, beq_eq_false_iff_ne.2 e]
theorem rmark_loop (s f : ByteArray) (hs : s.size ≤ 1000000000) (hf : f.size ≤ 1000000000) (d : Nat) : ∀ (i : Nat) (acc : List UInt8), i + d = s.size → acc.length ≤ 3 * i → Ev (fun k => cringleref03_Mark.l0 k s f (strOf acc) (i : Int)) (strOf (acc ++ Pc.mark (D f) ((D s).drop i))) := by
  have hls := D_len s
  have hlf := D_len f
  induction d with
  | zero =>
    intro i acc hi ha
    refine Ev.step (f := fun _ => some (strOf acc)) (fun k => ?_) ?_
    · simp only [cringleref03_Mark.l0]
      rw [if_neg (by omega)]
    · rw [List.drop_of_length_le (by omega)]
      show Ev (fun _ => some (strOf acc)) (strOf (acc ++ []))
      rw [List.append_nil]
      exact Ev.now _
  | succ d ih =>
    intro i acc hi ha
    have hlt : i < (D s).length := by omega
    obtain ⟨c, hc⟩ : ∃ c, (D s)[i] = c := ⟨_, rfl⟩
    refine Ev.step (fun k => by simp only [cringleref03_Mark.l0]; rw [if_pos (by omega), if_pos (by omega), bt_get s i hlt, hc, rplain_eq]) ?_
    refine Ev.bind (Ev.now _) ?_
    refine rmark_in s f (strOf acc) i c hlt hc hs hf f.size 0 _ (by omega) ?_
    rw [List.drop_zero, drop_at hlt, hc]
    have hM : Pc.mark (D f) (c :: (D s).drop (i + 1)) = one (D f) c ++ Pc.mark (D f) ((D s).drop (i + 1)) := by unfold Pc.mark; rw [List.flatMap_cons]
    have hex : s.extract i (i + 1) = strOf [c] := D_inj (by
      rw [D_str]
      unfold D
      rw [Lib.extract_data, Nat.add_sub_cancel_left]
      show ((D s).drop i).take 1 = _
      rw [drop_at hlt, hc]
      rfl)
    rw [hM, ← List.append_assoc]
    have ol := Pc.one_len (D f) c
    have hi1 := ih (i + 1) (acc ++ one (D f) c) (by omega) (by rw [List.length_append]; omega)
    by_cases hp : (Pc.plain c.toNat || (D f).contains c) = true
    · have ho : one (D f) c = [c] := by
        unfold Pc.one
        rw [if_pos (by simpa using hp)]
      rw [ho] at hi1 ⊢
      refine Ev.step (fun k => ?_) hi1
      simp only [cringleref03_Mark.l1]
      rw [if_neg (by omega), if_pos hp, next (by omega), if_pos (by omega), if_pos (by omega), if_pos (by omega), Int.toNat_natCast, Int.toNat_natCast, hex, str_cat2, if_pos (by rw [strOf_size, strOf_size]; simp; omega)]
    · have ho : one (D f) c = mk c := by
        unfold Pc.one
        rw [if_neg (by simpa using hp)]
      rw [ho] at hi1 ⊢
      refine Ev.step (fun k => ?_) hi1
      simp only [cringleref03_Mark.l1]
      rw [if_neg (by omega), if_neg hp, if_pos (by omega), if_pos (by omega), bt_get s i hlt, hc, rmark_eq, Option.bind_some, next (by omega), if_pos (by rw [strOf_size, strOf_size, show (mk c).length = 3 from rfl]; omega), str_cat2]
theorem rmark_ev (s f : ByteArray) (hs : s.size ≤ 1000000000) (hf : f.size ≤ 1000000000) : Ev (fun k => cringleref03_Mark.f k s f) (strOf (Pc.mark (D f) (D s))) := by
  have := rmark_loop s f hs hf s.size 0 [] (by omega) (by simp)
  rw [List.drop_zero] at this
  exact this
/-! unmarked -/
theorem nib_all : ∀ c : Fin 256, ascii_nibble.f ((c.val : Nat) : Int) = some (if hexv c.val < 16 then (((hexv c.val : Nat) : Int), true) else (0, false)) := by decide +kernel
theorem nib_eq (c : UInt8) : ascii_nibble.f ((c.toNat : Nat) : Int) = some (if hexv c.toNat < 16 then (((hexv c.toNat : Nat) : Int), true) else (0, false)) := nib_all ⟨c.toNat, c.toNat_lt⟩
theorem or_all : ∀ a b : Fin 16, Go.bits .or .u32 ((((a.val : Nat) : Int) * 16) % 4294967296) ((b.val : Nat) : Int) = ((a.val * 16 + b.val : Nat) : Int) := by decide +kernel
theorem or_eq {a b : Nat} (ha : a < 16) (hb : b < 16) : Go.bits .or .u32 (((a : Int) * 16) % 4294967296) (b : Int) = ((a * 16 + b : Nat) : Int) := or_all ⟨a, ha⟩ ⟨b, hb⟩
theorem or_zero : ∀ b : Fin 16, Go.bits .or .u32 (((0 : Int) * 16) % 4294967296) ((b.val : Nat) : Int) = ((b.val : Nat) : Int) := by decide +kernel
theorem hex2_eq (a b : UInt8) : ascii_Hex.f 3 (strOf [a, b]) = some (if hexv a.toNat < 16 ∧ hexv b.toNat < 16 then (((hexv a.toNat * 16 + hexv b.toNat : Nat) : Int), 0) else (0, 3)) := by
  have h0 : bt (strOf [a, b]) 0 = ((a.toNat : Nat) : Int) := bt_get (strOf [a, b]) 0 (by simp [D_str])
  have h1 : bt (strOf [a, b]) 1 = ((b.toNat : Nat) : Int) := bt_get (strOf [a, b]) 1 (by simp [D_str])
  have hz : (strOf [a, b]).size = 2 := rfl
  have w1 : wrap64 (0 + 1) = 1 := by unfold wrap64; omega
  have w2 : wrap64 (1 + 1) = 2 := by unfold wrap64; omega
  have t1 : (strOf [a, b]).toList ≠ ([] : List UInt8) := by rw [Lib.toList_data]; intro e; exact absurd e (by simp [strOf])
  have l1 (x : Int) (f : Bool) : ascii_Hex.l0 1 (strOf [a, b]) x f 2 2 = if f = true then some (0, 5) else some (x, 0) := by
    simp only [ascii_Hex.l0]
    rw [if_neg (by omega)]
  have l2 (x : Int) : ascii_Hex.l0 2 (strOf [a, b]) x false 2 1 = if hexv b.toNat < 16 then ascii_Hex.l0 1 (strOf [a, b]) (Go.bits .or .u32 ((x * 16) % 4294967296) ((hexv b.toNat : Nat) : Int)) ((x / 268435456) != 0) 2 2 else some (0, 3) := by
    conv => lhs; unfold ascii_Hex.l0
    rw [if_pos (by omega), if_pos (by omega), if_pos (by rw [hz]; omega), h1, nib_eq, Option.bind_some, w2]
    by_cases hb : hexv b.toNat < 16
    · rw [if_pos hb, if_pos hb, if_pos rfl, if_neg (by decide)]
    · rw [if_neg hb, if_neg hb, if_neg (by decide)]
  have l3 : ascii_Hex.l0 3 (strOf [a, b]) 0 false 2 0 = if hexv a.toNat < 16 then ascii_Hex.l0 2 (strOf [a, b]) (Go.bits .or .u32 (((0 : Int) * 16) % 4294967296) ((hexv a.toNat : Nat) : Int)) (((0 : Int) / 268435456) != 0) 2 1 else some (0, 3) := by
    conv => lhs; unfold ascii_Hex.l0
    rw [if_pos (by omega), if_pos (by omega), if_pos (by rw [hz]; omega), h0, nib_eq, Option.bind_some, w1]
    by_cases ha : hexv a.toNat < 16
    · rw [if_pos ha, if_pos ha, if_pos rfl, if_neg (by decide)]
    · rw [if_neg ha, if_neg ha, if_neg (by decide)]
  unfold ascii_Hex.f
  rw [if_neg t1, hz]
  show ascii_Hex.l0 3 (strOf [a, b]) 0 false 2 0 = _
  rw [l3]
  by_cases ha : hexv a.toNat < 16
  · rw [if_pos ha, or_zero ⟨hexv a.toNat, ha⟩, show (((0 : Int) / 268435456) != 0) = false from by decide, l2]
    by_cases hb : hexv b.toNat < 16
    · rw [if_pos hb, if_pos (show hexv a.toNat < 16 ∧ hexv b.toNat < 16 from ⟨ha, hb⟩), or_eq ha hb, l1, show ((((hexv a.toNat : Nat) : Int) / 268435456) != 0) = false from by rw [show ((hexv a.toNat : Nat) : Int) / 268435456 = 0 from by omega]; decide, if_neg (by decide)]
    · rw [if_neg hb, if_neg (fun q => hb q.2)]
  · rw [if_neg ha, if_neg (fun q => ha q.1)]
theorem hex2_ev (a b : UInt8) : Ev (fun k => ascii_Hex.f k (strOf [a, b])) (if hexv a.toNat < 16 ∧ hexv b.toNat < 16 then (((hexv a.toNat * 16 + hexv b.toNat : Nat) : Int), 0) else (0, 3)) :=
  Ev.of (fun k => ascii_Hex.mono _ k) (hex2_eq a b)
theorem rnib_all : ∀ c : Fin 256, cringleref01_Nibble.f 3 ((c.val : Nat) : Int) = some ((hexv c.val : Nat) : Int) := by decide +kernel
theorem rnib_ev (c : UInt8) : Ev (fun k => cringleref01_Nibble.f k ((c.toNat : Nat) : Int)) ((hexv c.toNat : Nat) : Int) := Ev.of (fun k => cringleref01_Nibble.mono _ k) (rnib_all ⟨c.toNat, c.toNat_lt⟩)
theorem un_loop : ∀ (n : Nat) (s : ByteArray) (acc : List UInt8), s.size ≤ n → Ev (fun k => percent_Unmark.l0 k s acc) (strOf (acc ++ un (D s))) := by
  intro n
  induction n with
  | zero =>
    intro s acc h
    have h0 : D s = [] := List.length_eq_zero_iff.1 (by rw [D_len]; omega)
    refine Ev.step (f := fun _ => some (strOf (acc ++ un (D s)))) (fun k => ?_) (Ev.now _)
    simp only [percent_Unmark.l0]
    rw [if_pos (by rw [Lib.toList_data]; exact h0), h0]
    show some (strOf acc) = some (strOf (acc ++ []))
    rw [List.append_nil]
  | succ n ih =>
    intro s acc h
    have hl := D_len s
    rcases hd : D s with _ | ⟨c, r⟩
    · refine Ev.step (f := fun _ => some (strOf (acc ++ un []))) (fun k => ?_) (Ev.now _)
      simp only [percent_Unmark.l0]
      rw [if_pos (by rw [Lib.toList_data]; exact hd)]
      show some (strOf acc) = some (strOf (acc ++ []))
      rw [List.append_nil]
    · have hne : ¬ s.toList = ([] : List UInt8) := by rw [Lib.toList_data]; intro e; rw [show s.data.toList = c :: r from hd] at e; cases e
      have hg : s.data.toList.getD 0 0 = c := by rw [show s.data.toList = c :: r from hd]; rfl
      have h1 : D (s.extract 1 s.size) = r := by rw [D_from, hd]; rfl
      rw [hd, List.length_cons] at hl
      have one_ : un (c :: r) = c :: un r → Ev (fun k => percent_Unmark.l0 k (s.extract 1 s.size) (acc ++ [c])) (strOf (acc ++ un (c :: r))) := fun e => by
        have := ih (s.extract 1 s.size) (acc ++ [c]) (by rw [← D_len, h1]; omega)
        rw [h1] at this
        rw [e, show acc ++ c :: un r = acc ++ [c] ++ un r from by simp]
        exact this
      refine Ev.step (fun k => by simp only [percent_Unmark.l0]; rw [if_neg hne, hg]) ?_
      by_cases hc : c = 37
      · refine Ev.congr (fun k => if_pos hc) ?_
        by_cases h2 : 2 < s.size
        · refine Ev.congr (fun k => if_pos h2) ?_
          obtain ⟨a, b, q, hr⟩ : ∃ a b q, r = a :: b :: q := by
            rcases r with _ | ⟨a, _ | ⟨b, q⟩⟩
            · simp only [List.length_nil] at hl; omega
            · simp only [List.length_cons, List.length_nil] at hl; omega
            · exact ⟨a, b, q, rfl⟩
          subst hr
          have hex : s.extract 1 3 = strOf [a, b] := D_inj (by
            rw [D_str]
            unfold D
            rw [Lib.extract_data]
            show ((D s).drop 1).take 2 = _
            rw [hd]
            rfl)
          rw [hex]
          refine Ev.bind (hex2_ev a b) ?_
          by_cases hh : hexv a.toNat < 16 ∧ hexv b.toNat < 16
          · rw [if_pos hh]
            refine Ev.congr (fun k => if_pos rfl) ?_
            have h3 : D (s.extract 3 s.size) = q := by rw [D_from, hd]; rfl
            have := ih (s.extract 3 s.size) (acc ++ [UInt8.ofNat (hexv a.toNat * 16 + hexv b.toNat)]) (by rw [← D_len, h3]; simp only [List.length_cons] at hl; omega)
            rw [h3] at this
            rw [show un (c :: a :: b :: q) = UInt8.ofNat (hexv a.toNat * 16 + hexv b.toNat) :: un q from by rw [un, if_pos ⟨hc, hh⟩], show acc ++ UInt8.ofNat (hexv a.toNat * 16 + hexv b.toNat) :: un q = acc ++ [UInt8.ofNat (hexv a.toNat * 16 + hexv b.toNat)] ++ un q from by simp]
            rw [show ((((hexv a.toNat * 16 + hexv b.toNat : Nat) : Int) % 256).toNat.toUInt8) = UInt8.ofNat (hexv a.toNat * 16 + hexv b.toNat) from by
              show UInt8.ofNat _ = UInt8.ofNat _
              congr 1
              omega]
            exact this
          · rw [if_neg hh]
            refine Ev.congr (fun k => if_neg (by simp)) ?_
            exact one_ (by rw [un, if_neg (fun q => hh q.2)])
        · refine Ev.congr (fun k => if_neg h2) ?_
          exact one_ (Pc.un_short c r (by omega))
      · refine Ev.congr (fun k => if_neg hc) ?_
        exact one_ (Pc.un_ne c r hc)
theorem un_ev (s : ByteArray) (hs : s.size ≤ 1000000000) : Ev (fun k => percent_Unmark.f k s) (strOf (un (D s))) := by
  unfold percent_Unmark.f
  refine Ev.congr (fun k => if_pos hs) ?_
  exact un_loop s.size s [] (Nat.le_refl _)
theorem run_loop (s : ByteArray) (hs : s.size ≤ 1000000000) : ∀ (n i : Nat) (pre : List UInt8), s.size - i ≤ n → i ≤ s.size → pre.length ≤ i → Ev (fun k => cringleref03_Unmark.l0 k s (nm pre) (i : Int)) (strOf (pre ++ un ((D s).drop i))) := by
  have hl := D_len s
  intro n
  induction n with
  | zero =>
    intro i pre h hi hp
    refine Ev.step (f := fun _ => some (strOf (pre ++ un ((D s).drop i)))) (fun k => ?_) (Ev.now _)
    simp only [cringleref03_Unmark.l0]
    rw [if_neg (by omega), str_nm, List.drop_of_length_le (by omega)]
    show some (strOf pre) = some (strOf (pre ++ []))
    rw [List.append_nil]
  | succ n ih =>
    intro i pre h hi hp
    by_cases hlt : i < s.size
    · have hlt' : i < (D s).length := by omega
      obtain ⟨c, hc⟩ : ∃ c, (D s)[i] = c := ⟨_, rfl⟩
      have hdr : (D s).drop i = c :: (D s).drop (i + 1) := by rw [drop_at hlt', hc]
      have plain_ : un (c :: (D s).drop (i + 1)) = c :: un ((D s).drop (i + 1)) → Ev (fun k => cringleref03_Unmark.j1 k s (nm pre) (i : Int) false) (strOf (pre ++ un ((D s).drop i))) := fun e => by
        have := ih (i + 1) (pre ++ [c]) (by omega) (by omega) (by simp; omega)
        rw [hdr, e, show pre ++ c :: un ((D s).drop (i + 1)) = pre ++ [c] ++ un ((D s).drop (i + 1)) from by simp]
        refine Ev.step (fun k => ?_) this
        simp only [cringleref03_Unmark.j1]
        rw [if_neg (by simp), if_pos (by omega), if_pos (by omega), if_pos (by rw [nm_len]; omega), bt_get s i hlt', hc, next (by omega), nm_append]
        rfl
      refine Ev.step (fun k => by simp only [cringleref03_Unmark.l0]; rw [if_pos (by omega), if_pos (by omega), bt_get s i hlt', hc]) ?_
      have w1 : wrap64 ((i : Int) + 1) = ((i + 1 : Nat) : Int) := next (by omega)
      have w2 : wrap64 ((i : Int) + 2) = ((i + 2 : Nat) : Int) := by unfold wrap64; omega
      have w3 : wrap64 (((i + 2 : Nat) : Int) + 1) = ((i + 3 : Nat) : Int) := next (i := i + 2) (by omega)
      by_cases h37 : c = 37
      · refine Ev.congr (fun k => if_pos (show ((c.toNat : Nat) : Int) = 37 by rw [h37]; rfl)) ?_
        rw [w1, w2]
        by_cases h2 : i + 2 < s.size
        · have l1 : i + 1 < (D s).length := by omega
          have l2 : i + 2 < (D s).length := by omega
          obtain ⟨a, ha⟩ : ∃ a, (D s)[i + 1] = a := ⟨_, rfl⟩
          obtain ⟨b, hb⟩ : ∃ b, (D s)[i + 2] = b := ⟨_, rfl⟩
          have hdr3 : (D s).drop (i + 1) = a :: b :: (D s).drop (i + 3) := by rw [drop_at l1, ha, drop_at l2, hb]
          have ba := bt_get s (i + 1) l1
          have bb := bt_get s (i + 2) l2
          rw [ha] at ba
          rw [hb] at bb
          refine Ev.congr (fun k => (if_pos (show ((i + 2 : Nat) : Int) < (s.size : Int) by omega)).trans ((if_pos (show (0 : Int) ≤ ((i + 1 : Nat) : Int) by omega)).trans (if_pos (show ((i + 1 : Nat) : Int) < (s.size : Int) by omega)))) ?_
          rw [ba]
          refine Ev.bind (rnib_ev a) ?_
          by_cases ha16 : hexv a.toNat < 16
          · refine Ev.congr (fun k => (if_pos (show ((hexv a.toNat : Nat) : Int) < 16 by omega)).trans (if_pos (show (0 : Int) ≤ ((i + 2 : Nat) : Int) by omega))) ?_
            rw [bb]
            refine Ev.bind (rnib_ev b) ?_
            by_cases hb16 : hexv b.toNat < 16
            · rw [decide_eq_true (show ((hexv b.toNat : Nat) : Int) < 16 by omega)]
              have hth := ih (i + 3) (pre ++ [UInt8.ofNat (hexv a.toNat * 16 + hexv b.toNat)]) (by omega) (by omega) (by simp; omega)
              have hun : pre ++ un ((D s).drop i) = pre ++ [UInt8.ofNat (hexv a.toNat * 16 + hexv b.toNat)] ++ un ((D s).drop (i + 3)) := by
                rw [hdr, hdr3, un, if_pos ⟨h37, ha16, hb16⟩]
                simp
              rw [hun]
              refine Ev.step (fun k => by simp only [cringleref03_Unmark.j1]; rw [if_pos trivial, w1, w2, if_pos (by omega), if_pos (by omega), ba, bb]) ?_
              refine Ev.bind (rnib_ev a) ?_
              refine Ev.congr (fun k => (if_pos (by omega)).trans (if_pos (by omega))) ?_
              refine Ev.bind (rnib_ev b) ?_
              refine Ev.congr (fun k => if_pos (by rw [nm_len]; omega)) ?_
              rw [w3, show ((((((hexv a.toNat : Nat) : Int) * 16) % 4294967296 + ((hexv b.toNat : Nat) : Int)) % 4294967296) % 256) = (((UInt8.ofNat (hexv a.toNat * 16 + hexv b.toNat)).toNat : Nat) : Int) from by
                rw [UInt8.toNat_ofNat']
                omega]
              rw [nm_append] at hth
              exact hth
            · rw [decide_eq_false (show ¬ ((hexv b.toNat : Nat) : Int) < 16 by omega)]
              exact plain_ (by rw [hdr3, un, if_neg (fun q => hb16 q.2.2)])
          · refine Ev.congr (fun k => if_neg (show ¬ ((hexv a.toNat : Nat) : Int) < 16 by omega)) ?_
            exact plain_ (by rw [hdr3, un, if_neg (fun q => ha16 q.2.1)])
        · refine Ev.congr (fun k => if_neg (by omega)) ?_
          exact plain_ (Pc.un_short c _ (by rw [List.length_drop]; omega))
      · refine Ev.congr (fun k => if_neg (fun e => h37 (UInt8.toNat_inj.1 (by show c.toNat = 37; omega)))) ?_
        exact plain_ (Pc.un_ne c _ h37)
    · refine Ev.step (f := fun _ => some (strOf (pre ++ un ((D s).drop i)))) (fun k => ?_) (Ev.now _)
      simp only [cringleref03_Unmark.l0]
      rw [if_neg (by omega), str_nm, List.drop_of_length_le (by omega)]
      show some (strOf pre) = some (strOf (pre ++ []))
      rw [List.append_nil]
theorem run_ev (s : ByteArray) (hs : s.size ≤ 1000000000) : Ev (fun k => cringleref03_Unmark.f k s) (strOf (un (D s))) := by
  have := run_loop s hs s.size 0 [] (by omega) (by omega) (by simp)
  rw [List.drop_zero] at this
  exact this
/-! a name's, or a value's, text, and what a text tells -/
theorem turned_eq (s : ByteArray) (a b : UInt8) (hs : s.size ≤ 1000000000) : cringleref03_turned.f s ((a.toNat : Nat) : Int) ((b.toNat : Nat) : Int) = some (strOf (sub a b (D s))) := by
  have ha := a.toNat_lt
  have hb := b.toNat_lt
  unfold cringleref03_turned.f
  rw [if_pos (by omega), if_pos (by omega)]
  rw [show ((a.toNat : Nat) : Int).toNat.toUInt8 = a from by simp, show ((b.toNat : Nat) : Int).toNat.toUInt8 = b from by simp]
  rfl
theorem part_eq (s : ByteArray) (hs : s.size ≤ 30000000) : percent_part.f s = some (strOf (Pc.part (D s))) := by
  have h1 := Pc.mark_len [32] (D s)
  rw [D_len] at h1
  unfold percent_part.f
  rw [mark_eq s _ (by omega)]
  simp only [Option.bind_some]
  rw [show strings_ReplaceAll.f (strOf (Pc.mark (D (⟨#[32]⟩ : ByteArray)) (D s))) (⟨#[32]⟩ : ByteArray) (⟨#[43]⟩ : ByteArray) = _ from rall_byte (strOf (Pc.mark [32] (D s))) 32 [43] (by decide) (by decide) (by rw [strOf_size]; omega), D_str, Pc.rep1_sub]
  rfl
theorem rpart_ev (s : ByteArray) (hs : s.size ≤ 30000000) : Ev (fun k => cringleref03_part.f k s) (strOf (Pc.part (D s))) := by
  have h1 := Pc.mark_len [32] (D s)
  rw [D_len] at h1
  unfold cringleref03_part.f
  refine Ev.bind (rmark_ev s (⟨#[32]⟩ : ByteArray) (by omega) (by decide)) ?_
  refine now_of ?_
  rw [show cringleref03_turned.f (strOf (Pc.mark (D (⟨#[32]⟩ : ByteArray)) (D s))) 32 43 = _ from turned_eq (strOf (Pc.mark [32] (D s))) 32 43 (by rw [strOf_size]; omega)]
  rfl
theorem read_ev (s : ByteArray) (hs : s.size ≤ 100000000) : Ev (fun k => percent_read.f k s) (strOf (read (D s))) := by
  have h2 := Pc.un_len _ (sub 43 32 (D s)) (Nat.le_refl _)
  rw [Pc.sub_len, D_len] at h2
  unfold percent_read.f
  rw [show strings_ReplaceAll.f s (⟨#[43]⟩ : ByteArray) (⟨#[32]⟩ : ByteArray) = _ from rall_byte s 43 [32] (by decide) (by decide) hs, Pc.rep1_sub]
  refine Ev.bind (Ev.now _) ?_
  refine Ev.bind (un_ev _ (by rw [strOf_size, Pc.sub_len, D_len]; omega)) ?_
  rw [D_str]
  refine Ev.bind (repair_ev _ (by rw [strOf_size]; omega)) ?_
  exact Ev.now _
theorem rread_ev (s : ByteArray) (hs : s.size ≤ 100000000) : Ev (fun k => cringleref03_read.f k s) (strOf (read (D s))) := by
  have h2 := Pc.un_len _ (sub 43 32 (D s)) (Nat.le_refl _)
  rw [Pc.sub_len, D_len] at h2
  unfold cringleref03_read.f
  rw [show cringleref03_turned.f s 43 32 = _ from turned_eq s 43 32 (by omega)]
  refine Ev.bind (Ev.now _) ?_
  refine Ev.bind (run_ev _ (by rw [strOf_size, Pc.sub_len, D_len]; omega)) ?_
  rw [D_str]
  refine Ev.bind (rrepair_ev _ (by rw [strOf_size]; omega)) ?_
  exact Ev.now _
end Go.Proofs.YtopaheopdpkjbaaDoor.Plain

namespace Go.Proofs.YtopaheopdpkjbaaDoor.Plain
open Go.RowKit Go.Proofs.YtopaheopdpkjbaaDoor.Q Go.Proofs.YtopaheopdpkjbaaDoorW.PrintWords Go.Proofs.YtopaheopdpkjbaaDoorW.PrintLast Go.Proofs.YtopaheopdpkjbaaDoorW.PrintMore
open Go.Proofs.YtopaheopdpkjbaaDoor.U8 (B nxt spec encB items text mend signs Right)
open Go.Proofs.YtopaheopdpkjbaaDoor.Rf
open Go.Proofs.YtopaheopdpkjbaaDoor.Pc (un mk hx sub one read sp join pair pairs parse form)
set_option linter.unusedVariables false
abbrev Pair := List UInt8 × List UInt8
def p43 (p : Pair) : S43 := ⟨strOf p.1, strOf p.2⟩
def p42 (p : Pair) : S42 := ⟨strOf p.1, strOf p.2⟩
def of42 (x : S42) : Pair := (D x.f0, D x.f1)
theorem p42_of (x : S42) : p42 (of42 x) = x := by cases x; rfl
theorem of42_p (p : Pair) : of42 (p42 p) = p := rfl
theorem at42 {l : List S42} {i : Nat} (h : i < l.length) : rd_T42 l (i : Int) = l[i] := by
  unfold rd_T42
  rw [Int.toNat_natCast, List.getD_eq_getElem?_getD, List.getElem?_eq_getElem h]
  rfl
theorem at43 {l : List S43} {i : Nat} (h : i < l.length) : rd_T43 l (i : Int) = l[i] := by
  unfold rd_T43
  rw [Int.toNat_natCast, List.getD_eq_getElem?_getD, List.getElem?_eq_getElem h]
  rfl
/-! split -/
theorem count_eq (s : ByteArray) : strings_Count.f s (⟨#[38]⟩ : ByteArray) = some (((D s).count 38 : Nat) : Int) := by
  unfold strings_Count.f
  rw [if_pos (by rfl)]
  rfl
theorem split_eq (s : ByteArray) (hs : s.size ≤ 100000000) : strings_Split.f s (⟨#[38]⟩ : ByteArray) = some ((sp 38 [] (D s)).map strOf) := by
  unfold strings_Split.f
  rw [if_pos (by omega), if_pos (by show 1 ≤ 1; omega)]
  congr 1
  have h := Lib.splitB_data (⟨#[38]⟩ : ByteArray) 0 (Lib.countB s (⟨#[38]⟩ : ByteArray)) s
  rw [show Lib.splitK (⟨#[38]⟩ : ByteArray).data.toList 0 (Lib.countB s (⟨#[38]⟩ : ByteArray)) s.data.toList = sp 38 [] (D s) from Pc.splitK_sp 38 _ (D s) (Nat.le_refl _)] at h
  rw [← h, List.map_map]
  conv => lhs; rw [← List.map_id (Lib.splitB _ _ _ _)]
  refine List.map_congr_left fun x _ => ?_
  exact (str_D x).symm
theorem rsplit_loop (s : ByteArray) (hs : s.size ≤ 100000000) (d : Nat) : ∀ (i : Nat) (pre : List ByteArray) (acc : List UInt8), i + d = s.size → pre.length ≤ i → acc.length ≤ i →
    Ev (fun k => cringleref01_Split.l0 k s 38 (pre ++ [strOf acc]) (i : Int)) (pre ++ (sp 38 acc ((D s).drop i)).map strOf) := by
  have hls := D_len s
  induction d with
  | zero =>
    intro i pre acc hi hp ha
    refine Ev.step (f := fun _ => some (pre ++ [strOf acc])) (fun k => ?_) ?_
    · simp only [cringleref01_Split.l0]
      rw [if_neg (by omega)]
    · rw [List.drop_of_length_le (by omega)]
      exact Ev.now _
  | succ d ih =>
    intro i pre acc hi hp ha
    have hlt : i < (D s).length := by omega
    obtain ⟨c, hc⟩ : ∃ c, (D s)[i] = c := ⟨_, rfl⟩
    have hl : (pre ++ [strOf acc]).length = pre.length + 1 := by simp
    rw [drop_at hlt, hc]
    by_cases hb : c = 38
    · have := ih (i + 1) (pre ++ [strOf acc]) [] (by omega) (by rw [hl]; omega) (by simp)
      rw [sp, if_pos hb, List.map_cons, show pre ++ strOf acc :: (sp 38 [] ((D s).drop (i + 1))).map strOf = (pre ++ [strOf acc]) ++ (sp 38 [] ((D s).drop (i + 1))).map strOf from by simp]
      refine Ev.step (fun k => ?_) this
      simp only [cringleref01_Split.l0]
      rw [if_pos (by omega), if_pos (by omega), bt_get s i hlt, hc, if_pos (show ((c.toNat : Nat) : Int) = 38 by rw [hb]; rfl), if_pos (by rw [hl]; omega), next (by omega)]
      rfl
    · have hw : wrap64 (((pre ++ [strOf acc]).length : Int) - 1) = ((pre.length : Nat) : Int) := by
        rw [hl]
        unfold wrap64
        omega
      have hr : rdOf ByteArray.empty (pre ++ [strOf acc]) ((pre.length : Nat) : Int) = strOf acc := by
        rw [texts_at (by omega)]
        simp
      have hex : s.extract i (i + 1) = strOf [c] := D_inj (by
        rw [D_str]
        unfold D
        rw [Lib.extract_data, Nat.add_sub_cancel_left]
        show ((D s).drop i).take 1 = _
        rw [drop_at hlt, hc]
        rfl)
      have := ih (i + 1) pre (acc ++ [c]) (by omega) (by omega) (by simp; omega)
      rw [sp, if_neg hb]
      refine Ev.step (fun k => ?_) this
      simp only [cringleref01_Split.l0]
      rw [if_pos (by omega), if_pos (by omega), bt_get s i hlt, hc, if_neg (fun e => hb (UInt8.toNat_inj.1 (by show c.toNat = 38; omega))), hw, next (by omega), if_pos (by omega), if_pos (by omega), if_pos (by omega), if_pos (by omega), hr]
      rw [Int.toNat_natCast, Int.toNat_natCast, Int.toNat_natCast, hex, str_cat2, if_pos (by rw [strOf_size, strOf_size]; simp; omega)]
      congr 1
      rw [List.set_append_right _ _ (by omega), Nat.sub_self]
      rfl
theorem rsplit_ev (s : ByteArray) (hs : s.size ≤ 100000000) : Ev (fun k => cringleref01_Split.f k s 38) ((sp 38 [] (D s)).map strOf) := by
  have := rsplit_loop s hs s.size 0 [] [] (by omega) (by simp) (by simp)
  rw [List.drop_zero] at this
  exact this
/-! parsed -/
theorem cut_eq (s : ByteArray) (h : s.size ≤ 100000000) : strings_Cut.f s (⟨#[61]⟩ : ByteArray) = some (strOf (Lib.cut (D s) [61]).1, strOf (Lib.cut (D s) [61]).2.1, (Lib.cut (D s) [61]).2.2) := by
  unfold strings_Cut.f
  rw [if_pos (by omega)]
  rfl
theorem cut_sizes (l : List UInt8) : (Lib.cut l [61]).1.length ≤ l.length ∧ (Lib.cut l [61]).2.1.length ≤ l.length := by
  rw [cut_byte]
  split
  · refine ⟨(List.takeWhile_prefix _).length_le, ?_⟩
    simp only [List.length_drop]
    omega
  · simp
theorem pairs_cons (x : List UInt8) (l : List (List UInt8)) : pairs (x :: l) = if x = [] then pairs l else pair x :: pairs l := by
  unfold Pc.pairs
  by_cases h : x = []
  · rw [if_pos h, List.filter_cons_of_neg (by simp [h])]
  · rw [if_neg h, List.filter_cons_of_pos (by simp [h])]
    rfl
theorem parse_loop (L : List (List UInt8)) (hL : L.length ≤ 100000001) (hx : ∀ x ∈ L, x.length ≤ 100000000) (d : Nat) : ∀ (i : Nat) (pre : List S43), i + d = L.length → pre.length ≤ i →
    Ev (fun k => percent_Parse.l0 k pre (L.map strOf) (L.length : Int) (i : Int)) (pre ++ (pairs (L.drop i)).map p43, 0) := by
  have hml : (L.map strOf).length = L.length := List.length_map _
  induction d with
  | zero =>
    intro i pre hi hp
    refine Ev.step (f := fun _ => some (pre, 0)) (fun k => ?_) ?_
    · simp only [percent_Parse.l0]
      rw [if_neg (by omega)]
    · rw [List.drop_of_length_le (by omega)]
      show Ev (fun _ => some (pre, 0)) (pre ++ [], 0)
      rw [List.append_nil]
      exact Ev.now _
  | succ d ih =>
    intro i pre hi hp
    have hlt : i < L.length := by omega
    obtain ⟨x, hc⟩ : ∃ x, L[i] = x := ⟨_, rfl⟩
    have hxl := hx x (by rw [← hc]; exact List.getElem_mem _)
    have hat : rdOf ByteArray.empty (L.map strOf) (i : Int) = strOf x := by
      rw [texts_at (by omega), List.getElem_map, hc]
    rw [drop_at hlt, hc, pairs_cons]
    refine Ev.step (fun k => by simp only [percent_Parse.l0]; rw [if_pos (by omega), if_pos (by omega), if_pos (by omega), hat, cut_eq _ (by rw [strOf_size]; exact hxl), D_str]) ?_
    refine Ev.bind (Ev.now _) ?_
    by_cases h0 : x = []
    · rw [if_pos h0]
      refine Ev.congr (fun k => if_pos (show (strOf x).toList = ([] : List UInt8) by rw [Lib.toList_data]; exact h0)) ?_
      rw [next (by omega)]
      exact ih (i + 1) pre (by omega) (by omega)
    · rw [if_neg h0]
      refine Ev.congr (fun k => if_neg (show ¬ (strOf x).toList = ([] : List UInt8) by rw [Lib.toList_data]; exact h0)) ?_
      have hcs := cut_sizes x
      refine Ev.bind (read_ev _ (by show (strOf _).size ≤ _; rw [strOf_size]; omega)) ?_
      refine Ev.bind (read_ev _ (by show (strOf _).size ≤ _; rw [strOf_size]; omega)) ?_
      refine Ev.congr (fun k => if_pos (by omega)) ?_
      rw [next (by omega)]
      have := ih (i + 1) (pre ++ [p43 (pair x)]) (by omega) (by simp; omega)
      rw [List.map_cons, show pre ++ p43 (pair x) :: (pairs (L.drop (i + 1))).map p43 = pre ++ [p43 (pair x)] ++ (pairs (L.drop (i + 1))).map p43 from by simp]
      exact this
def told3 (l : List UInt8) : List Pair × Int := if l.count 38 > 512 then ([], 5) else (parse l, 0)
theorem sp_small (l : List UInt8) (h : l.length ≤ 100000000) : (sp 38 [] l).length ≤ 100000001 ∧ ∀ x ∈ sp 38 [] l, x.length ≤ 100000000 := by
  refine ⟨?_, fun x hx => ?_⟩
  · rw [Pc.sp_len]
    have := List.count_le_length (a := (38 : UInt8)) (l := l)
    omega
  · have := Pc.sp_mem 38 l [] x hx
    simp only [List.length_nil] at this
    omega
theorem parse_ev (s : ByteArray) (hs : s.size ≤ 100000000) : Ev (fun k => percent_Parse.f k s) ((told3 (D s)).1.map p43, (told3 (D s)).2) := by
  unfold percent_Parse.f told3
  rw [count_eq]
  refine Ev.bind (Ev.now _) ?_
  by_cases h : (D s).count 38 > 512
  · rw [if_pos h]
    refine Ev.congr (fun k => if_pos (by omega)) ?_
    exact Ev.now _
  · rw [if_neg h]
    refine Ev.congr (fun k => if_neg (by omega)) ?_
    rw [split_eq s hs]
    refine Ev.bind (Ev.now _) ?_
    obtain ⟨h1, h2⟩ := sp_small (D s) (by rw [D_len]; exact hs)
    have := parse_loop (sp 38 [] (D s)) h1 h2 _ 0 [] (Nat.zero_add _) (Nat.le_refl _)
    rw [List.drop_zero, List.nil_append] at this
    rw [List.length_map]
    exact this
theorem tw_all (x : List UInt8) (h : (61 : UInt8) ∉ x) : x.takeWhile (· != (61 : UInt8)) = x := by
  have := List.takeWhile_append_of_pos (p := (· != (61 : UInt8))) (l₁ := x) (l₂ := []) (fun y hy => by simpa using fun e : y = 61 => h (by rw [← e]; exact hy))
  simpa using this
theorem rname_loop (L : List (List UInt8)) (hL : L.length ≤ 100000001) (i : Nat) (hi : i < L.length) (x : List UInt8) (hc : L[i] = x) (hx : x.length ≤ 100000000) (pre : List S42) {r : List S42 × Int}
    (h : Ev (fun k => cringleref03_Parse.j2 k (L.map strOf) pre (i : Int) (((x.takeWhile (· != 61)).length : Nat) : Int)) r) (d : Nat) :
    ∀ n : Nat, n + d = (x.takeWhile (· != 61)).length → Ev (fun k => cringleref03_Parse.l1 k (L.map strOf) pre (i : Int) (n : Int)) r := by
  have hml : (L.map strOf).length = L.length := List.length_map _
  have htl := (List.takeWhile_prefix (· != (61 : UInt8)) (l := x)).length_le
  have hat : rdOf ByteArray.empty (L.map strOf) (i : Int) = strOf x := by rw [texts_at (by omega), List.getElem_map, hc]
  induction d with
  | zero =>
    intro n hn
    have e : n = (x.takeWhile (· != 61)).length := by omega
    refine Ev.step (fun k => ?_) (by rw [← e] at h; exact h)
    simp only [cringleref03_Parse.l1]
    rw [if_pos (by omega), if_pos (by omega), hat]
    by_cases hl : n < x.length
    · have h61 : x[n] = 61 := by
        have hm : (61 : UInt8) ∈ x := by
          by_cases hm : (61 : UInt8) ∈ x
          · exact hm
          · exfalso
            rw [tw_all x hm] at e
            omega
        obtain ⟨t1, t2, t3⟩ := Pc.tw_split 61 x hm
        have := congrArg (fun l => l[n]?) t3
        simp only [] at this
        rw [List.getElem?_eq_getElem hl, List.getElem?_append_right (by omega), show n - (x.takeWhile (· != 61)).length = 0 from by omega] at this
        simpa using this
      have hb := bt_get (strOf x) n hl
      have h2 : (D (strOf x))[n] = 61 := h61
      rw [h2] at hb
      rw [if_pos (by rw [strOf_size]; omega), if_pos (by omega), hb, if_pos (by rfl)]
    · rw [if_neg (by rw [strOf_size]; omega)]
  | succ d ih =>
    intro n hn
    have hl : n < x.length := by omega
    have h61 : x[n] ≠ 61 := by
      have h1 : n < (x.takeWhile (· != 61)).length := by omega
      have h2 := List.all_eq_true.1 (List.all_takeWhile (p := (· != (61 : UInt8))) (l := x)) _ (List.getElem_mem h1)
      have h3 : (x.takeWhile (· != 61))[n] = x[n] := by
        have := (List.takeWhile_prefix (· != (61 : UInt8)) (l := x))
        exact this.getElem h1
      rw [h3] at h2
      simpa using h2
    have hb := bt_get (strOf x) n hl
    have h2 : (D (strOf x))[n] = x[n] := rfl
    rw [h2] at hb
    refine Ev.step (fun k => ?_) (ih (n + 1) (by omega))
    simp only [cringleref03_Parse.l1]
    rw [if_pos (by omega), if_pos (by omega), hat, if_pos (by rw [strOf_size]; omega), if_pos (by omega), hb, if_neg (fun e => h61 (UInt8.toNat_inj.1 (by show x[n].toNat = 61; omega))), next (by omega)]
theorem rparse_loop (L : List (List UInt8)) (hL : L.length ≤ 100000001) (hx : ∀ x ∈ L, x.length ≤ 100000000) (d : Nat) : ∀ (i : Nat) (pre : List S42), i + d = L.length → pre.length ≤ i →
    Ev (fun k => cringleref03_Parse.l0 k (L.map strOf) pre (i : Int)) (pre ++ (pairs (L.drop i)).map p42, 0) := by
  have hml : (L.map strOf).length = L.length := List.length_map _
  induction d with
  | zero =>
    intro i pre hi hp
    refine Ev.step (f := fun _ => some (pre, 0)) (fun k => ?_) ?_
    · simp only [cringleref03_Parse.l0]
      rw [if_neg (by omega)]
    · rw [List.drop_of_length_le (by omega)]
      show Ev (fun _ => some (pre, 0)) (pre ++ [], 0)
      rw [List.append_nil]
      exact Ev.now _
  | succ d ih =>
    intro i pre hi hp
    have hlt : i < L.length := by omega
    obtain ⟨x, hc⟩ : ∃ x, L[i] = x := ⟨_, rfl⟩
    have hxl := hx x (by rw [← hc]; exact List.getElem_mem _)
    have hat : rdOf ByteArray.empty (L.map strOf) (i : Int) = strOf x := by
      rw [texts_at (by omega), List.getElem_map, hc]
    rw [drop_at hlt, hc, pairs_cons]
    refine Ev.step (fun k => by simp only [cringleref03_Parse.l0]; rw [if_pos (by omega), if_pos (by omega), hat]) ?_
    by_cases h0 : x = []
    · rw [if_pos h0]
      refine Ev.congr (fun k => if_pos (show (strOf x).toList = ([] : List UInt8) by rw [Lib.toList_data]; exact h0)) ?_
      rw [next (by omega)]
      exact ih (i + 1) pre (by omega) (by omega)
    · rw [if_neg h0]
      refine Ev.congr (fun k => if_neg (show ¬ (strOf x).toList = ([] : List UInt8) by rw [Lib.toList_data]; exact h0)) ?_
      have hnx := ih (i + 1) (pre ++ [p42 (pair x)]) (by omega) (by simp; omega)
      rw [List.map_cons, show pre ++ p42 (pair x) :: (pairs (L.drop (i + 1))).map p42 = pre ++ [p42 (pair x)] ++ (pairs (L.drop (i + 1))).map p42 from by simp]
      refine rname_loop L hL i hlt x hc hxl pre ?_ (x.takeWhile (· != 61)).length 0 (by omega)
      have htl := (List.takeWhile_prefix (· != (61 : UInt8)) (l := x)).length_le
      have hct := cut_byte 61 x
      have hz := strOf_size x
      have htk : (x.take (x.takeWhile (· != 61)).length) = x.takeWhile (· != 61) := (List.prefix_iff_eq_take.1 (List.takeWhile_prefix _)).symm
      refine Ev.step (fun k => by simp only [cringleref03_Parse.j2]; rw [if_pos (by omega), if_pos (by omega), if_pos (by omega), hat, if_pos (by omega), Int.toNat_natCast]) ?_
      have hex : D ((strOf x).extract 0 (x.takeWhile (· != 61)).length) = x.takeWhile (· != 61) := by rw [D_to, D_str, htk]
      refine Ev.bind (rread_ev _ (by rw [← D_len, hex]; omega)) ?_
      rw [hex]
      by_cases hm : (61 : UInt8) ∈ x
      · obtain ⟨t1, t2, t3⟩ := Pc.tw_split 61 x hm
        rw [if_pos hm] at hct
        have hpair : pair x = (read (x.takeWhile (· != 61)), read (x.drop ((x.takeWhile (· != 61)).length + 1))) := by unfold Pc.pair; rw [hct]
        have hex2 : D ((strOf x).extract ((x.takeWhile (· != 61)).length + 1) (strOf x).size) = x.drop ((x.takeWhile (· != 61)).length + 1) := by rw [D_from, D_str]
        refine Ev.congr (fun k => by rw [if_pos (by omega), next (by omega), if_pos (by omega), if_pos (by omega), Int.toNat_natCast]) ?_
        refine Ev.bind (rread_ev _ (by rw [← D_len, hex2, List.length_drop]; omega)) ?_
        rw [hex2]
        refine Ev.congr (fun k => if_pos (by omega)) ?_
        rw [next (by omega)]
        rw [hpair] at hnx ⊢
        exact hnx
      · rw [if_neg hm] at hct
        have htw : x.takeWhile (· != 61) = x := tw_all x hm
        have hpair : pair x = (read x, []) := by unfold Pc.pair; rw [hct]; rfl
        rw [htw]
        refine Ev.congr (fun k => (if_neg (by omega)).trans (if_pos (by omega))) ?_
        rw [next (by omega)]
        rw [hpair] at hnx ⊢
        exact hnx
theorem rparse_ev (s : ByteArray) (hs : s.size ≤ 100000000) : Ev (fun k => cringleref03_Parse.f k s) ((told3 (D s)).1.map p42, (told3 (D s)).2) := by
  unfold cringleref03_Parse.f told3
  refine Ev.bind (rsplit_ev s hs) ?_
  obtain ⟨h1, h2⟩ := sp_small (D s) (by rw [D_len]; exact hs)
  have hl := Pc.sp_len 38 (D s) []
  have hw : wrap64 ((((sp 38 [] (D s)).map strOf).length : Int) - 1) = (((D s).count 38 : Nat) : Int) := by
    rw [List.length_map, hl]
    unfold wrap64
    omega
  rw [hw]
  by_cases h : (D s).count 38 > 512
  · rw [if_pos h]
    refine Ev.congr (fun k => if_pos (by omega)) ?_
    exact Ev.now _
  · rw [if_neg h]
    refine Ev.congr (fun k => if_neg (by omega)) ?_
    have := rparse_loop (sp 38 [] (D s)) h1 h2 _ 0 [] (Nat.zero_add _) (Nat.le_refl _)
    rw [List.drop_zero, List.nil_append] at this
    exact this
/-! formed -/
def texts (l : List Pair) : List (List UInt8) := l.map fun p => Pc.part p.1 ++ 61 :: Pc.part p.2
theorem lib_join (b : UInt8) : ∀ l : List (List UInt8), Lib.join l [b] = join b l
  | [] => rfl
  | [x] => Lib.join_one x [b]
  | x :: y :: r => by
    have h1 := lib_join b (y :: r)
    rw [Lib.join_cons] at h1 ⊢
    rw [Pc.join, ← h1]
    simp [Lib.joinTail]
theorem join_eq (L : List (List UInt8)) (hl : L.length ≤ 100000000) (hj : (join 38 L).length ≤ 100000000000) : strings_Join.f (L.map strOf) (⟨#[38]⟩ : ByteArray) = some (strOf (join 38 L)) := by
  have e : ((L.map strOf).map (·.data.toList)) = L := by
    rw [List.map_map]
    conv => rhs; rw [← List.map_id L]
    rfl
  unfold strings_Join.f
  rw [if_pos (by rw [List.length_map]; omega), e, show (⟨#[38]⟩ : ByteArray).data.toList = [38] from rfl, lib_join, if_pos (by omega)]
  rfl
theorem texts_len (l : List Pair) : ∀ x ∈ texts l, ∃ p ∈ l, x = Pc.part p.1 ++ 61 :: Pc.part p.2 := fun x hx => by
  obtain ⟨p, hp, rfl⟩ := List.mem_map.1 hx
  exact ⟨p, hp, rfl⟩
def Small (l : List Pair) : Prop := l.length ≤ 100 ∧ ∀ p ∈ l, p.1.length ≤ 2000000 ∧ p.2.length ≤ 2000000
theorem sum_le : ∀ (l : List Nat) (m : Nat), (∀ x ∈ l, x ≤ m) → l.sum ≤ l.length * m
  | [], m, _ => by simp
  | x :: l, m, h => by
    have h1 := sum_le l m (fun y hy => h y (by simp [hy]))
    have h2 := h x (by simp)
    rw [List.sum_cons, List.length_cons, Nat.succ_mul]
    omega
theorem texts_small {l : List Pair} (h : Small l) : ∀ x ∈ texts l, x.length ≤ 12000001 := fun x hx => by
  obtain ⟨p, hp, rfl⟩ := texts_len l x hx
  have := h.2 p hp
  have h1 := Pc.part_len p.1
  have h2 := Pc.part_len p.2
  rw [List.length_append, List.length_cons]
  omega
theorem join_small {l : List Pair} (h : Small l) {m : List (List UInt8)} (hm : ∀ x ∈ m, x ∈ texts l) (hl : m.length ≤ 100) : (join 38 m).length ≤ 100000000000 := by
  have h1 := Pc.join_len 38 m
  have h2 := sum_le (m.map fun x => x.length + 1) 12000002 (fun y hy => by
    obtain ⟨x, hx, rfl⟩ := List.mem_map.1 hy
    have := texts_small h x (hm x hx)
    omega)
  rw [List.length_map] at h2
  have h3 : m.length * 12000002 ≤ 100 * 12000002 := Nat.mul_le_mul_right _ hl
  omega
theorem form_loop (l : List Pair) (h : Small l) (d : Nat) : ∀ i : Nat, i + d = l.length → Ev (fun k => percent_Form.l0 k (((texts l).take i).map strOf) (l.map p43) (l.length : Int) (i : Int)) (strOf (form l)) := by
  have hml : (l.map p43).length = l.length := List.length_map _
  have htl : (texts l).length = l.length := List.length_map _
  have h100 := h.1
  induction d with
  | zero =>
    intro i hi
    have e : (texts l).take i = texts l := List.take_of_length_le (by omega)
    refine Ev.step (fun k => by simp only [percent_Form.l0]; rw [if_neg (by omega), e, join_eq _ (by omega) (join_small h (fun x hx => hx) (by omega))]) ?_
    exact Ev.bind (Ev.now _) (Ev.now _)
  | succ d ih =>
    intro i hi
    have hlt : i < l.length := by omega
    have hat : rd_T43 (l.map p43) (i : Int) = p43 l[i] := by rw [at43 (by omega), List.getElem_map]
    have hb := h.2 l[i] (List.getElem_mem _)
    have p1 := Pc.part_len l[i].1
    have p2 := Pc.part_len l[i].2
    refine Ev.step (fun k => ?_) (ih (i + 1) (by omega))
    simp only [percent_Form.l0]
    rw [if_pos (by omega), if_pos (by omega), if_pos (by omega), hat]
    rw [show percent_part.f (p43 l[i]).f0 = _ from part_eq (strOf l[i].1) (by rw [strOf_size]; omega), show percent_part.f (p43 l[i]).f1 = _ from part_eq (strOf l[i].2) (by rw [strOf_size]; omega), D_str, D_str]
    simp only [Option.bind_some]
    rw [if_pos (by rw [strOf_size]; omega), show (⟨#[61]⟩ : ByteArray) = strOf [61] from rfl, str_cat2, str_cat2, if_pos (by rw [strOf_size, strOf_size]; simp; omega), if_pos (by rw [List.length_map, List.length_take]; omega), next (by omega)]
    congr 1
    rw [List.take_succ_eq_append_getElem (by omega), List.map_append]
    congr 2
    show strOf _ = strOf _
    congr 1
    unfold texts
    rw [List.getElem_map]
    simp
theorem form_ev (l : List Pair) (h : Small l) : Ev (fun k => percent_Form.f k (l.map p43)) (strOf (form l)) := by
  have := form_loop l h l.length 0 (by omega)
  unfold percent_Form.f
  rw [List.length_map]
  exact this
def joinTo (b : UInt8) (l : List (List UInt8)) (x : List UInt8) : List UInt8 := if l = [] then x else join b l ++ b :: x
theorem join_snoc (b : UInt8) : ∀ (l : List (List UInt8)) (x : List UInt8), join b (l ++ [x]) = joinTo b l x
  | [], x => rfl
  | [y], x => by simp [joinTo, Pc.join]
  | y :: z :: r, x => by
    have := join_snoc b (z :: r) x
    rw [show (y :: z :: r) ++ [x] = y :: z :: (r ++ [x]) from rfl, Pc.join, show z :: (r ++ [x]) = (z :: r) ++ [x] from rfl, this]
    simp [joinTo, Pc.join]
theorem rform_loop (l : List Pair) (h : Small l) (d : Nat) : ∀ i : Nat, i + d = l.length → Ev (fun k => cringleref03_Form.l0 k (l.map p42) (strOf (join 38 ((texts l).take i))) (i : Int)) (strOf (form l)) := by
  have hml : (l.map p42).length = l.length := List.length_map _
  have htl : (texts l).length = l.length := List.length_map _
  have h100 := h.1
  induction d with
  | zero =>
    intro i hi
    have e : (texts l).take i = texts l := List.take_of_length_le (by omega)
    refine Ev.step (f := fun _ => some (strOf (form l))) (fun k => ?_) (Ev.now _)
    simp only [cringleref03_Form.l0]
    rw [if_neg (by omega), e]
    rfl
  | succ d ih =>
    intro i hi
    have hlt : i < l.length := by omega
    have hat : rd_T42 (l.map p42) (i : Int) = p42 l[i] := by rw [at42 (by omega), List.getElem_map]
    have hb := h.2 l[i] (List.getElem_mem _)
    have p1 := Pc.part_len l[i].1
    have p2 := Pc.part_len l[i].2
    have hj := join_small h (m := (texts l).take i) (fun x hx => List.mem_of_mem_take hx) (by rw [List.length_take]; omega)
    have htx : (texts l)[i]'(by omega) = Pc.part l[i].1 ++ 61 :: Pc.part l[i].2 := by unfold texts; rw [List.getElem_map]
    have hsn : join 38 ((texts l).take (i + 1)) = joinTo 38 ((texts l).take i) (Pc.part l[i].1 ++ 61 :: Pc.part l[i].2) := by
      rw [List.take_succ_eq_append_getElem (by omega), join_snoc, htx]
    have ih1 := ih (i + 1) (by omega)
    rw [hsn] at ih1
    refine Ev.step (fun k => by simp only [cringleref03_Form.l0]; rw [if_pos (by omega), hat]) ?_
    by_cases h0 : i = 0
    · subst h0
      refine Ev.congr (fun k => (if_neg (by omega)).trans (if_pos (by omega))) ?_
      refine Ev.bind (rpart_ev (strOf l[0].1) (by rw [strOf_size]; omega)) ?_
      rw [D_str]
      refine Ev.congr (fun k => if_pos (by rw [strOf_size]; omega)) ?_
      refine Ev.bind (rpart_ev (strOf l[0].2) (by rw [strOf_size]; omega)) ?_
      rw [D_str, show (⟨#[61]⟩ : ByteArray) = strOf [61] from rfl, str_cat2, str_cat2, show join 38 ((texts l).take 0) = [] from rfl, str_cat2, show wrap64 (((0 : Nat) : Int) + 1) = ((0 + 1 : Nat) : Int) from next (by omega)]
      refine Ev.congr (fun k => (if_pos (by rw [strOf_size, strOf_size]; simp; omega)).trans (if_pos (by rw [strOf_size, strOf_size]; simp; omega))) ?_
      rw [show joinTo 38 ((texts l).take 0) (Pc.part l[0].1 ++ 61 :: Pc.part l[0].2) = ([] : List UInt8) ++ (Pc.part l[0].1 ++ ([61] : List UInt8) ++ Pc.part l[0].2) from by simp [joinTo]] at ih1
      exact ih1
    · have hne : (texts l).take i ≠ [] := by
        intro e
        have := congrArg List.length e
        rw [List.length_take, List.length_nil] at this
        omega
      refine Ev.congr (fun k => (if_pos (by omega)).trans ((if_pos (by rw [strOf_size]; omega)).trans (if_pos (by omega)))) ?_
      refine Ev.bind (rpart_ev (strOf l[i].1) (by rw [strOf_size]; omega)) ?_
      rw [D_str]
      refine Ev.congr (fun k => if_pos (by rw [strOf_size]; omega)) ?_
      refine Ev.bind (rpart_ev (strOf l[i].2) (by rw [strOf_size]; omega)) ?_
      rw [D_str, show (⟨#[61]⟩ : ByteArray) = strOf [61] from rfl, show (⟨#[38]⟩ : ByteArray) = strOf [38] from rfl, str_cat2, str_cat2, str_cat2, str_cat2, next (by omega)]
      refine Ev.congr (fun k => (if_pos (by rw [strOf_size, strOf_size]; simp; omega)).trans (if_pos (by rw [strOf_size, strOf_size]; simp; omega))) ?_
      rw [show joinTo 38 ((texts l).take i) (Pc.part l[i].1 ++ 61 :: Pc.part l[i].2) = join 38 ((texts l).take i) ++ ([38] : List UInt8) ++ (Pc.part l[i].1 ++ ([61] : List UInt8) ++ Pc.part l[i].2) from by unfold joinTo; rw [if_neg hne]; simp] at ih1
      exact ih1
theorem rform_ev (l : List Pair) (h : Small l) : Ev (fun k => cringleref03_Form.f k (l.map p42)) (strOf (form l)) :=
  rform_loop l h l.length 0 (by omega)
/-! theirs, ours, same, far -/
theorem theirs_loop (l : List S42) (hl : l.length ≤ 100000001) (d : Nat) : ∀ (i : Nat) (pre : List S43), i + d = l.length → pre.length ≤ i → Ev (fun k => cringlelaw03_theirs.l0 k pre l (l.length : Int) (i : Int)) (pre ++ (l.drop i).map fun x => p43 (of42 x)) := by
  induction d with
  | zero =>
    intro i pre hi hp
    refine Ev.step (f := fun _ => some pre) (fun k => ?_) ?_
    · simp only [cringlelaw03_theirs.l0]
      rw [if_neg (by omega)]
    · rw [List.drop_of_length_le (by omega)]
      show Ev (fun _ => some pre) (pre ++ [])
      rw [List.append_nil]
      exact Ev.now _
  | succ d ih =>
    intro i pre hi hp
    have hlt : i < l.length := by omega
    have := ih (i + 1) (pre ++ [p43 (of42 l[i])]) (by omega) (by simp; omega)
    rw [drop_at hlt, List.map_cons, show pre ++ p43 (of42 l[i]) :: (l.drop (i + 1)).map (fun x => p43 (of42 x)) = pre ++ [p43 (of42 l[i])] ++ (l.drop (i + 1)).map (fun x => p43 (of42 x)) from by simp]
    refine Ev.step (fun k => ?_) this
    simp only [cringlelaw03_theirs.l0]
    rw [if_pos (by omega), if_pos (by omega), if_pos (by omega), if_pos (by omega), at42 hlt, next (by omega)]
    rfl
theorem theirs_ev (l : List S42) (hl : l.length ≤ 100000001) : Ev (fun k => cringlelaw03_theirs.f k l) ((l.map of42).map p43) := by
  have := theirs_loop l hl l.length 0 [] (by omega) (by simp)
  rw [List.drop_zero, List.nil_append] at this
  rw [List.map_map]
  exact this
theorem ours_loop (l : List Pair) (hl : l.length ≤ 100000001) (d : Nat) : ∀ (i : Nat) (pre : List S42), i + d = l.length → pre.length ≤ i → Ev (fun k => cringlelaw03_ours.l0 k pre (l.map p43) (l.length : Int) (i : Int)) (pre ++ (l.drop i).map p42) := by
  have hml : (l.map p43).length = l.length := List.length_map _
  induction d with
  | zero =>
    intro i pre hi hp
    refine Ev.step (f := fun _ => some pre) (fun k => ?_) ?_
    · simp only [cringlelaw03_ours.l0]
      rw [if_neg (by omega)]
    · rw [List.drop_of_length_le (by omega)]
      show Ev (fun _ => some pre) (pre ++ [])
      rw [List.append_nil]
      exact Ev.now _
  | succ d ih =>
    intro i pre hi hp
    have hlt : i < l.length := by omega
    have := ih (i + 1) (pre ++ [p42 l[i]]) (by omega) (by simp; omega)
    rw [drop_at hlt, List.map_cons, show pre ++ p42 l[i] :: (l.drop (i + 1)).map p42 = pre ++ [p42 l[i]] ++ (l.drop (i + 1)).map p42 from by simp]
    refine Ev.step (fun k => ?_) this
    simp only [cringlelaw03_ours.l0]
    rw [if_pos (by omega), if_pos (by omega), if_pos (by omega), if_pos (by omega), at43 (by omega), List.getElem_map, next (by omega)]
    rfl
theorem ours_ev (l : List Pair) (hl : l.length ≤ 100000001) : Ev (fun k => cringlelaw03_ours.f k (l.map p43)) (l.map p42) := by
  have := ours_loop l hl l.length 0 [] (by omega) (by simp)
  rw [List.drop_zero, List.nil_append] at this
  unfold cringlelaw03_ours.f
  rw [List.length_map]
  exact this
theorem psame_loop (l : List S42) (hl : l.length ≤ 100000001) (d : Nat) : ∀ i : Nat, i + d = l.length → Ev (fun k => cringlelaw03_same.l0 k l l (l.length : Int) (i : Int)) true := by
  induction d with
  | zero =>
    intro i hi
    refine Ev.step (f := fun _ => some true) (fun k => ?_) (Ev.now _)
    simp only [cringlelaw03_same.l0]
    rw [if_neg (by omega)]
  | succ d ih =>
    intro i hi
    refine Ev.step (fun k => ?_) (ih (i + 1) (by omega))
    simp only [cringlelaw03_same.l0]
    rw [if_pos (by omega), if_pos (by omega), if_pos (by omega), if_pos (by omega), if_neg (by simp), next (by omega)]
theorem psame_ev (l : List S42) (hl : l.length ≤ 100000001) : Ev (fun k => cringlelaw03_same.f k l l) true := by
  unfold cringlelaw03_same.f
  refine Ev.congr (fun k => if_pos rfl) ?_
  exact psame_loop l hl l.length 0 (by omega)
def cap (x : S42) : Nat := min x.f0.size 3000 + min x.f1.size 3000
theorem mn3000 (n : Nat) : mn (n : Int) 3000 = ((min n 3000 : Nat) : Int) := by unfold mn; split <;> omega
theorem far_loop (l m : List S42) (hm : m.length ≤ 60) (d : Nat) : ∀ (i n : Nat), i + d = m.length → n ≤ 6000 * i → Ev (fun k => cringlelaw03_far.l0 k l (n : Int) m (m.length : Int) (i : Int)) (if l.length > 60 then true else decide (n + ((m.drop i).map cap).sum > 3000)) := by
  induction d with
  | zero =>
    intro i n hi hn
    refine Ev.step (f := fun _ => some _) (fun k => ?_) (Ev.now _)
    simp only [cringlelaw03_far.l0]
    rw [if_neg (by omega), List.drop_of_length_le (by omega)]
    simp only [List.map_nil, List.sum_nil, Nat.add_zero]
    by_cases h : l.length > 60
    · rw [if_pos (by omega), if_pos h]
    · rw [if_neg (by omega), if_neg h]
      congr 1
      by_cases h2 : n > 3000
      · rw [decide_eq_true (by omega), decide_eq_true h2]
      · rw [decide_eq_false (by omega), decide_eq_false h2]
  | succ d ih =>
    intro i n hi hn
    have hlt : i < m.length := by omega
    have hc : cap m[i] ≤ 6000 := by unfold cap; omega
    have := ih (i + 1) (n + cap m[i]) (by omega) (by omega)
    rw [drop_at hlt, List.map_cons, List.sum_cons, ← Nat.add_assoc]
    refine Ev.step (fun k => ?_) this
    simp only [cringlelaw03_far.l0]
    rw [if_pos (by omega), if_pos (by omega), if_pos (by omega), at42 hlt, next (by omega), mn3000, mn3000, show wrap64 ((n : Int) + ((((min m[i].f0.size 3000 : Nat) : Int)) + ((min m[i].f1.size 3000 : Nat) : Int))) = ((n + cap m[i] : Nat) : Int) from by
      unfold cap at hc ⊢
      unfold wrap64
      omega]
theorem far_ev (l : List S42) (hl : l.length ≤ 100000000000000) : ∃ b, Ev (fun k => cringlelaw03_far.f k l) b ∧ (b = false → l.length ≤ 60) := by
  have e : mn (l.length : Int) 60 = ((min l.length 60 : Nat) : Int) := by unfold mn; split <;> omega
  refine ⟨if l.length > 60 then true else decide (0 + (((l.take (min l.length 60)).drop 0).map cap).sum > 3000), ?_, fun h => ?_⟩
  · unfold cringlelaw03_far.f
    rw [e]
    refine Ev.congr (fun k => (if_pos (by omega)).trans (if_pos (by omega))) ?_
    refine Ev.bind (Ev.now _) ?_
    rw [Int.toNat_natCast]
    exact far_loop l (l.take (min l.length 60)) (by rw [List.length_take]; omega) _ 0 0 (Nat.zero_add _) (by omega)
  · by_cases h2 : l.length > 60
    · rw [if_pos h2] at h
      cases h
    · omega
theorem long_eq (s : ByteArray) : cringlelaw03_long.f s = some (decide (3000 < s.size)) := by
  unfold cringlelaw03_long.f
  by_cases h : 3000 < s.size
  · rw [decide_eq_true h, decide_eq_true (by omega)]
  · rw [decide_eq_false h, decide_eq_false (by omega)]
/-! sums of sizes -/
def bytesIn (l : List S42) : Nat := (l.map fun x => x.f0.size + x.f1.size).sum
theorem bytes_each : ∀ (l : List S42), ∀ x ∈ l, x.f0.size + x.f1.size ≤ bytesIn l
  | [], x, h => by cases h
  | y :: l, x, h => by
    have e : bytesIn (y :: l) = y.f0.size + y.f1.size + bytesIn l := by unfold bytesIn; rw [List.map_cons, List.sum_cons]
    rw [e]
    rcases List.mem_cons.1 h with rfl | h
    · omega
    · have := bytes_each l x h
      omega
theorem texts_sum : ∀ l : List S42, ((texts (l.map of42)).map fun x => x.length + 1).sum ≤ 3 * bytesIn l + 2 * l.length
  | [] => by simp [texts]
  | y :: l => by
    have e : bytesIn (y :: l) = y.f0.size + y.f1.size + bytesIn l := by unfold bytesIn; rw [List.map_cons, List.sum_cons]
    have ih := texts_sum l
    have p1 := Pc.part_len (of42 y).1
    have p2 := Pc.part_len (of42 y).2
    rw [show (of42 y).1 = D y.f0 from rfl, D_len] at p1
    rw [show (of42 y).2 = D y.f1 from rfl, D_len] at p2
    have h1 : (texts ((y :: l).map of42)) = (Pc.part (of42 y).1 ++ 61 :: Pc.part (of42 y).2) :: texts (l.map of42) := rfl
    rw [h1, List.map_cons, List.sum_cons, List.length_append, List.length_cons, List.length_cons, e]
    rw [show (of42 y).1 = D y.f0 from rfl, show (of42 y).2 = D y.f1 from rfl]
    omega
theorem form_size (l : List S42) : (form (l.map of42)).length ≤ 3 * bytesIn l + 2 * l.length :=
  Nat.le_trans (Pc.join_len 38 (texts (l.map of42))) (texts_sum l)
theorem small_of (l : List S42) (hl : l.length ≤ 60) (hx : bytesIn l ≤ 1048576) : Small (l.map of42) := ⟨by rw [List.length_map]; omega, fun p hp => by
  obtain ⟨x, hxm, rfl⟩ := List.mem_map.1 hp
  have := bytes_each l x hxm
  unfold of42
  simp only [D_len]
  omega⟩
/-! the probe -/
theorem alive_ev : Ev (fun k => cringlelaw03_alive.f k) true := by
  unfold cringlelaw03_alive.f
  refine Ev.bind (form_ev [([97, 32, 98], [195, 169])] ⟨by decide, by decide⟩) ?_
  refine Ev.bind (parse_ev _ (by decide +kernel)) ?_
  rw [D_str, show told3 (form [([97, 32, 98], [195, 169])]) = ([([97, 32, 98], [195, 169])], 0) from by decide +kernel]
  refine now_of ?_
  decide +kernel
theorem alive_then : Ev (fun k => (cringlelaw03_alive.f k).bind fun t => some t) true := Ev.bind alive_ev (Ev.now _)
end Go.Proofs.YtopaheopdpkjbaaDoor.Plain

namespace Go.Proofs.YtopaheopdpkjbaaDoor.Plain
open Go.RowKit Go.Proofs.YtopaheopdpkjbaaDoor.Q Go.Proofs.YtopaheopdpkjbaaDoorW.PrintWords Go.Proofs.YtopaheopdpkjbaaDoorW.PrintLast Go.Proofs.YtopaheopdpkjbaaDoorW.PrintMore
open Go.Proofs.YtopaheopdpkjbaaDoor.Rf
set_option linter.unusedVariables false
def getIn (n : List UInt8) : List S42 → ByteArray × Bool
  | [] => (⟨#[]⟩, false)
  | x :: l => if D x.f0 = n then (x.f1, true) else getIn n l
def fits (n : List UInt8) (x : S42) : Bool := decide (D x.f0 = n ∨ D x.f0 = n ++ [91, 93])
def allIn (n : List UInt8) (l : List S42) : List ByteArray := (l.filter (fits n)).map fun x => x.f1
theorem allIn_cons (n : List UInt8) (x : S42) (l : List S42) : allIn n (x :: l) = if fits n x = true then x.f1 :: allIn n l else allIn n l := by
  unfold allIn
  by_cases h : fits n x = true
  · rw [if_pos h, List.filter_cons_of_pos h]; rfl
  · rw [if_neg h, List.filter_cons_of_neg h]
theorem same_str {a b : ByteArray} : a.toList = b.toList ↔ D a = D b := by rw [Lib.toList_data, Lib.toList_data]
theorem fits_prefix (n : List UInt8) (x : S42) : fits n x = true ↔ n.isPrefixOf (D x.f0) = true ∧ ((D x.f0).drop n.length = [] ∨ (D x.f0).drop n.length = [91, 93]) := by
  unfold fits
  rw [decide_eq_true_iff]
  constructor
  · rintro (h | h)
    · rw [h]; exact ⟨List.isPrefixOf_iff_prefix.2 (List.prefix_refl _), .inl (by simp)⟩
    · rw [h]; exact ⟨List.isPrefixOf_iff_prefix.2 (List.prefix_append _ _), .inr (by simp)⟩
  · rintro ⟨h1, h2⟩
    obtain ⟨t, ht⟩ := List.isPrefixOf_iff_prefix.1 h1
    rw [← ht] at h2 ⊢
    rw [List.drop_left] at h2
    rcases h2 with rfl | rfl
    · left; simp
    · right; rfl
section
variable (l : List S42) (hl : l.length ≤ 100000001) (name : ByteArray)
def m43 (x : S42) : S43 := ⟨x.f0, x.f1⟩
theorem p43_of (x : S42) : p43 (of42 x) = m43 x := by cases x; rfl
include hl
theorem get_loop (d : Nat) : ∀ i : Nat, i + d = l.length → Ev (fun k => percent_Get.l0 k name (l.map m43) (l.length : Int) (i : Int)) (getIn (D name) (l.drop i)) := by
  have hml : (l.map m43).length = l.length := List.length_map _
  induction d with
  | zero =>
    intro i hi
    refine Ev.step (f := fun _ => some (⟨#[]⟩, false)) (fun k => ?_) ?_
    · simp only [percent_Get.l0]
      rw [if_neg (by omega)]
    · rw [List.drop_of_length_le (by omega)]
      exact Ev.now _
  | succ d ih =>
    intro i hi
    have hlt : i < l.length := by omega
    have hat : rd_T43 (l.map m43) (i : Int) = m43 l[i] := by rw [at43 (by omega), List.getElem_map]
    rw [drop_at hlt]
    refine Ev.step (fun k => by simp only [percent_Get.l0]; rw [if_pos (by omega), if_pos (by omega), if_pos (by omega), hat]) ?_
    unfold getIn
    by_cases h : D l[i].f0 = D name
    · rw [if_pos h]
      refine Ev.congr (fun k => if_pos (same_str.2 h)) ?_
      exact Ev.now _
    · rw [if_neg h]
      refine Ev.congr (fun k => if_neg (fun q => h (same_str.1 q))) ?_
      rw [next (by omega)]
      exact ih (i + 1) (by omega)
theorem get_ev : Ev (fun k => percent_Get.f k (l.map m43) name) (getIn (D name) l) := by
  have := get_loop l hl name l.length 0 (by omega)
  unfold percent_Get.f
  rw [List.length_map]
  exact this
theorem rget_loop (d : Nat) : ∀ i : Nat, i + d = l.length → Ev (fun k => cringleref03_Get.l0 k l name (i : Int)) (getIn (D name) (l.drop i)) := by
  induction d with
  | zero =>
    intro i hi
    refine Ev.step (f := fun _ => some (⟨#[]⟩, false)) (fun k => ?_) ?_
    · simp only [cringleref03_Get.l0]
      rw [if_neg (by omega)]
    · rw [List.drop_of_length_le (by omega)]
      exact Ev.now _
  | succ d ih =>
    intro i hi
    have hlt : i < l.length := by omega
    rw [drop_at hlt]
    refine Ev.step (fun k => by simp only [cringleref03_Get.l0]; rw [if_pos (by omega), if_pos (by omega), at42 hlt]) ?_
    unfold getIn
    by_cases h : D l[i].f0 = D name
    · rw [if_pos h]
      refine Ev.congr (fun k => if_pos (same_str.2 h)) ?_
      exact Ev.now _
    · rw [if_neg h]
      refine Ev.congr (fun k => if_neg (fun q => h (same_str.1 q))) ?_
      rw [next (by omega)]
      exact ih (i + 1) (by omega)
theorem rget_ev : Ev (fun k => cringleref03_Get.f k l name) (getIn (D name) l) := rget_loop l hl name l.length 0 (by omega)
theorem all_loop (d : Nat) : ∀ (i : Nat) (pre : List ByteArray), i + d = l.length → pre.length ≤ i → Ev (fun k => percent_All.l0 k name pre (l.map m43) (l.length : Int) (i : Int)) (pre ++ allIn (D name) (l.drop i)) := by
  have hml : (l.map m43).length = l.length := List.length_map _
  induction d with
  | zero =>
    intro i pre hi hp
    refine Ev.step (f := fun _ => some pre) (fun k => ?_) ?_
    · simp only [percent_All.l0]
      rw [if_neg (by omega)]
    · rw [List.drop_of_length_le (by omega)]
      show Ev (fun _ => some pre) (pre ++ [])
      rw [List.append_nil]
      exact Ev.now _
  | succ d ih =>
    intro i pre hi hp
    have hlt : i < l.length := by omega
    have hat : rd_T43 (l.map m43) (i : Int) = m43 l[i] := by rw [at43 (by omega), List.getElem_map]
    rw [drop_at hlt, allIn_cons]
    have hf := fits_prefix (D name) l[i]
    rw [D_len] at hf
    have yes := ih (i + 1) (pre ++ [l[i].f1]) (by omega) (by simp; omega)
    have no := ih (i + 1) pre (by omega) (by omega)
    refine Ev.step (fun k => by simp only [percent_All.l0]; rw [if_pos (by omega), if_pos (by omega), if_pos (by omega), hat, cutPrefix_eq]) ?_
    refine Ev.bind (Ev.now _) ?_
    by_cases h1 : (D name).isPrefixOf (D (m43 l[i]).f0) = true
    · rw [if_pos h1]
      refine Ev.congr (fun k => if_pos rfl) ?_
      by_cases h2 : (D l[i].f0).drop name.size = []
      · rw [if_pos (hf.2 ⟨h1, .inl h2⟩)]
        refine Ev.congr (fun k => (if_pos (by rw [Lib.toList_data]; exact h2)).trans (if_pos (by omega))) ?_
        rw [next (by omega)]
        rw [show pre ++ l[i].f1 :: allIn (D name) (l.drop (i + 1)) = pre ++ [l[i].f1] ++ allIn (D name) (l.drop (i + 1)) from by simp]
        exact yes
      · refine Ev.congr (fun k => if_neg (by rw [Lib.toList_data]; exact h2)) ?_
        by_cases h3 : (D l[i].f0).drop name.size = [91, 93]
        · rw [if_pos (hf.2 ⟨h1, .inr h3⟩)]
          refine Ev.congr (fun k => (if_pos (by rw [Lib.toList_data]; exact h3)).trans (if_pos (by omega))) ?_
          rw [next (by omega)]
          rw [show pre ++ l[i].f1 :: allIn (D name) (l.drop (i + 1)) = pre ++ [l[i].f1] ++ allIn (D name) (l.drop (i + 1)) from by simp]
          exact yes
        · rw [if_neg (fun q => by
            rcases (hf.1 q).2 with q | q
            · exact h2 q
            · exact h3 q)]
          refine Ev.congr (fun k => if_neg (by rw [Lib.toList_data]; exact h3)) ?_
          rw [next (by omega)]
          exact no
    · rw [if_neg h1, if_neg (fun q => h1 (hf.1 q).1)]
      refine Ev.congr (fun k => if_neg (by simp)) ?_
      rw [next (by omega)]
      exact no
theorem all_ev : Ev (fun k => percent_All.f k (l.map m43) name) (allIn (D name) l) := by
  have := all_loop l hl name l.length 0 [] (by omega) (by simp)
  unfold percent_All.f
  rw [List.length_map]
  exact this
theorem rall_loop (hn : name.size ≤ 100000) (d : Nat) : ∀ (i : Nat) (pre : List ByteArray), i + d = l.length → pre.length ≤ i → Ev (fun k => cringleref03_All.l0 k l name pre (i : Int)) (pre ++ allIn (D name) (l.drop i)) := by
  induction d with
  | zero =>
    intro i pre hi hp
    refine Ev.step (f := fun _ => some pre) (fun k => ?_) ?_
    · simp only [cringleref03_All.l0]
      rw [if_neg (by omega)]
    · rw [List.drop_of_length_le (by omega)]
      show Ev (fun _ => some pre) (pre ++ [])
      rw [List.append_nil]
      exact Ev.now _
  | succ d ih =>
    intro i pre hi hp
    have hlt : i < l.length := by omega
    rw [drop_at hlt, allIn_cons]
    have hcat : D (name ++ (⟨#[91, 93]⟩ : ByteArray)) = D name ++ [91, 93] := by simp [D]
    have yes := ih (i + 1) (pre ++ [l[i].f1]) (by omega) (by simp; omega)
    have no := ih (i + 1) pre (by omega) (by omega)
    refine Ev.step (fun k => by simp only [cringleref03_All.l0]; rw [if_pos (by omega), if_pos (by omega), at42 hlt]) ?_
    by_cases h1 : D l[i].f0 = D name
    · rw [if_pos (show fits (D name) l[i] = true from decide_eq_true (.inl h1))]
      refine Ev.congr (fun k => (if_pos (same_str.2 h1)).trans (if_pos (by omega))) ?_
      rw [next (by omega)]
      rw [show pre ++ l[i].f1 :: allIn (D name) (l.drop (i + 1)) = pre ++ [l[i].f1] ++ allIn (D name) (l.drop (i + 1)) from by simp]
      exact yes
    · refine Ev.congr (fun k => (if_neg (fun q => h1 (same_str.1 q))).trans (if_pos (by omega))) ?_
      by_cases h2 : D l[i].f0 = D name ++ [91, 93]
      · rw [if_pos (show fits (D name) l[i] = true from decide_eq_true (.inr h2))]
        refine Ev.congr (fun k => (if_pos (same_str.2 (by rw [hcat]; exact h2))).trans (if_pos (by omega))) ?_
        rw [next (by omega)]
        rw [show pre ++ l[i].f1 :: allIn (D name) (l.drop (i + 1)) = pre ++ [l[i].f1] ++ allIn (D name) (l.drop (i + 1)) from by simp]
        exact yes
      · rw [if_neg (fun q => by
          rcases of_decide_eq_true q with q | q
          · exact h1 q
          · exact h2 q)]
        refine Ev.congr (fun k => if_neg (fun q => h2 (by rw [← hcat]; exact same_str.1 q))) ?_
        rw [next (by omega)]
        exact no
theorem rall_ev (hn : name.size ≤ 100000) : Ev (fun k => cringleref03_All.f k l name) (allIn (D name) l) :=
  rall_loop l hl name hn l.length 0 [] (by omega) (by simp)
end
theorem texts_loop (l : List ByteArray) (hl : l.length ≤ 100000001) (d : Nat) : ∀ i : Nat, i + d = l.length → Ev (fun k => cringleref01_Texts.l0 k l l (i : Int)) true := by
  induction d with
  | zero =>
    intro i hi
    refine Ev.step (f := fun _ => some true) (fun k => ?_) (Ev.now _)
    simp only [cringleref01_Texts.l0]
    rw [if_neg (by omega)]
  | succ d ih =>
    intro i hi
    refine Ev.step (fun k => ?_) (ih (i + 1) (by omega))
    simp only [cringleref01_Texts.l0]
    rw [if_pos (by omega), if_pos (by omega), if_pos (by omega), if_pos trivial, next (by omega)]
theorem texts_ev (l : List ByteArray) (hl : l.length ≤ 100000001) : Ev (fun k => cringleref01_Texts.f k l l) true := by
  unfold cringleref01_Texts.f
  refine Ev.congr (fun k => if_pos rfl) ?_
  exact texts_loop l hl l.length 0 (by omega)
theorem allIn_len (n : List UInt8) (l : List S42) : (allIn n l).length ≤ l.length := by
  unfold allIn
  rw [List.length_map]
  exact List.length_filter_le _ _
end Go.Proofs.YtopaheopdpkjbaaDoor.Plain
