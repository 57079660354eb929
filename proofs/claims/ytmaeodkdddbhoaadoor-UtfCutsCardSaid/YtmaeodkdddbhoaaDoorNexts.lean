/- What utf.Next and the reference's Next come to: what stands at a text's begin, over its list of bytes. No condition but those typed. -/
import Derived.Test.YtmaeodkdddbhoaaDoorQ
import Derived.Test.YtmaeodkdddbhoaaDoorTexts
import Derived.Test.YtmaeodkdddbhoaaDoorTexts8
namespace Go.Proofs.YtmaeodkdddbhoaaDoor.Plain
open Go.RowKit Go.Proofs.YtmaeodkdddbhoaaDoor.Q Go.Proofs.YtmaeodkdddbhoaaDoorW.PrintWords Go.Proofs.YtmaeodkdddbhoaaDoorW.PrintLast Go.Proofs.YtmaeodkdddbhoaaDoorW.PrintMore
open Go.Proofs.YtmaeodkdddbhoaaDoor.U8 (B nxt spec encB items text mend signs Right)
set_option linter.unusedVariables false
abbrev D (s : ByteArray) : List UInt8 := s.data.toList
theorem D_len (s : ByteArray) : (D s).length = s.size := data_length s
theorem D_from (s : ByteArray) (i : Nat) : D (s.extract i s.size) = (D s).drop i := by
  unfold D
  rw [Lib.extract_data, List.take_of_length_le (by rw [List.length_drop, data_length]; omega)]
theorem D_to (s : ByteArray) (i : Nat) : D (s.extract 0 i) = (D s).take i := by
  unfold D
  rw [Lib.extract_data, List.drop_zero, Nat.sub_zero]
theorem D_nil (s : ByteArray) : s.toList = ([] : List UInt8) ↔ D s = [] := by rw [Lib.toList_data]
theorem D_inj {a b : ByteArray} (h : D a = D b) : a = b := by
  obtain ⟨x⟩ := a
  obtain ⟨y⟩ := b
  exact congrArg _ (Array.toList_inj.1 h)
theorem get_B (s : ByteArray) (i : Nat) : (s.get! i).toNat = B (D s) i := by
  unfold B D
  obtain ⟨d⟩ := s
  show (d[i]!).toNat = (d.toList.getD i 0).toNat
  rw [List.getD_eq_getElem?_getD, Array.getElem?_toList, Array.getElem!_eq_getD, ← Array.getD_eq_getD_getElem?]
  rfl
theorem bt_B (s : ByteArray) (i : Nat) : bt s (i : Int) = ((B (D s) i : Nat) : Int) := by
  unfold bt
  rw [Int.toNat_natCast]
  split
  · rename_i h
    rw [← get_B, ← Go.Proofs.Utf8W.get!_of_lt s i h]
  · rename_i h
    unfold B D
    rw [List.getD_eq_getElem?_getD, List.getElem?_eq_none (by rw [data_length]; omega)]
    rfl
theorem decode_B (s : ByteArray) (i : Nat) (h : i < s.size) : Utf8.decode s i = (if (nxt ((D s).drop i)).2.2 then ((nxt ((D s).drop i)).1, (nxt ((D s).drop i)).2.1) else (65533, 1)) := by
  have hB : ∀ j, B (D s) (i + j) = B ((D s).drop i) j := fun j => by
    unfold B
    rw [List.getD_eq_getElem?_getD, List.getD_eq_getElem?_getD, List.getElem?_drop]
  rw [Lib.decode_at, get_B, get_B, get_B, get_B]
  unfold nxt
  rw [← hB, ← hB, ← hB, ← hB, List.length_drop, D_len]
  exact U8.decode_spec _ _ _ _ _ (by omega) (U8.B_lt _ _) (U8.B_lt _ _) (U8.B_lt _ _) (U8.B_lt _ _)
theorem decodeGo_D (s : ByteArray) (h : D s ≠ []) : Lib.decodeGo s = (if (nxt (D s)).2.2 then ((nxt (D s)).1, (nxt (D s)).2.1) else (65533, 1)) := by
  have h0 : 0 < s.size := by rw [← D_len]; exact List.length_pos_iff.2 h
  unfold Lib.decodeGo
  rw [if_neg (by omega), decode_B s 0 h0, List.drop_zero]
/-- FullRuneInString of a beginning, where what stands there is no sign. -/
theorem full_spec (n x0 x1 x2 x3 : Nat) (hn : 1 ≤ n) (h : (spec n x0 x1 x2 x3).2.2 = false) (j : Nat) (hj : 1 ≤ j) (hj4 : j ≤ 4) (hjn : j ≤ n) (y1 y2 : Nat) (e1 : 1 < j → y1 = x1) (e2 : 2 < j → y2 = x2) :
    (Full.unicode_utf8_FullRuneInString.n j x0 y1 y2 = true → (spec n x0 x1 x2 x3).2.1 < j ∨ j = 1) ∧ (Full.unicode_utf8_FullRuneInString.n j x0 y1 y2 = false → j ≤ (spec n x0 x1 x2 x3).2.1) := by
  have hc := U8.firstT_classes x0
  unfold Full.unicode_utf8_FullRuneInString.n
  rw [if_neg (by omega)]
  unfold spec at h ⊢
  split at h
  · cases h
  rename_i hb
  rw [if_neg hb]
  split at h
  · rename_i ht
    rw [if_pos ht, ht, if_pos (by omega)]
    exact ⟨fun _ => by simp only; omega, fun h => by cases h⟩
  rename_i ht
  rw [if_neg ht]
  split at h
  · rename_i g1
    rw [if_pos g1]
    refine ⟨fun _ => by simp only; omega, fun hh => ?_⟩
    simp only
    rcases Nat.lt_or_ge 1 j with h1 | h1
    · rw [e1 h1] at hh
      exfalso
      split at hh
      · cases hh
      rw [if_pos (by omega)] at hh
      cases hh
    · omega
  rename_i g1
  rw [if_neg g1]
  split at h
  · cases h
  rename_i s2
  rw [if_neg s2]
  split at h
  · rename_i g2
    rw [if_pos g2]
    simp only
    refine ⟨fun hh => ?_, fun hh => ?_⟩
    · rcases Nat.lt_or_ge 2 j with h1 | h1
      · omega
      · exfalso
        rw [if_neg (by omega)] at hh
        split at hh
        · rename_i q
          rw [e1 q.1] at q
          omega
        · have := of_decide_eq_true hh
          omega
    · rcases Nat.lt_or_ge 2 j with h1 | h1
      · rw [e1 (by omega), e2 h1] at hh
        exfalso
        split at hh
        · cases hh
        rw [if_neg (by omega), decide_eq_true (by omega)] at hh
        cases hh
      · omega
  rename_i g2
  rw [if_neg g2]
  split at h
  · cases h
  rename_i s3
  rw [if_neg s3]
  split at h
  · rename_i g3
    rw [if_pos g3]
    simp only
    refine ⟨fun hh => ?_, fun hh => ?_⟩
    · rcases Nat.lt_or_ge 3 j with h1 | h1
      · omega
      · exfalso
        rw [if_neg (by omega)] at hh
        split at hh
        · rename_i q
          rw [e1 q.1] at q
          omega
        · have q := of_decide_eq_true hh
          rw [e2 q.1] at q
          omega
    · rcases Nat.lt_or_ge 3 j with h1 | h1
      · exfalso
        rw [if_pos (by omega)] at hh
        cases hh
      · omega
  · cases h
theorem B_take (l : List UInt8) {i j : Nat} (h : i < j) : B (l.take j) i = B l i := by
  unfold B
  rw [List.getD_eq_getElem?_getD, List.getD_eq_getElem?_getD, List.getElem?_take, if_pos h]
theorem full_at (s : ByteArray) (h : D s ≠ []) (hb : (nxt (D s)).2.2 = false) (j : Nat) (hj : 1 ≤ j) (hj4 : j ≤ 4) (hjn : j ≤ s.size) :
    ∃ b, utf8_FullRuneInString.f (s.extract 0 j) = some b ∧ (b = true → (nxt (D s)).2.1 < j ∨ j = 1) ∧ (b = false → j ≤ (nxt (D s)).2.1) := by
  have hsz : (s.extract 0 j).size = j := by rw [← D_len, D_to, List.length_take, D_len]; omega
  refine ⟨_, rfl, ?_⟩
  have key := full_spec (D s).length (B (D s) 0) (B (D s) 1) (B (D s) 2) (B (D s) 3) (by rw [D_len]; omega) hb j hj hj4 (by rw [D_len]; omega) (B (D (s.extract 0 j)) 1) (B (D (s.extract 0 j)) 2) (fun h1 => by rw [D_to, B_take _ h1]) (fun h1 => by rw [D_to, B_take _ h1])
  unfold Full.unicode_utf8_FullRuneInString.b
  rw [hsz, get_B, get_B, get_B, show B (D (s.extract 0 j)) 0 = B (D s) 0 from by rw [D_to, B_take _ (by omega)]]
  exact key
/-- The greatest place so far. -/
def val (w j : Nat) : Nat := if j ≤ 1 then 1 else min (j - 1) w
theorem part_loop (s : ByteArray) (hs : s.size ≤ 1000000000000000000) (h : D s ≠ []) (hb : (nxt (D s)).2.2 = false) (d : Nat) : ∀ j : Nat, 1 ≤ j → j + d = min s.size 4 + 1 → Ev (fun k => utf_part.l0 k s ((val (nxt (D s)).2.1 j : Nat) : Int) (j : Int)) (((nxt (D s)).2.1 : Nat) : Int) := by
  have hw := U8.nxt_width h
  rw [D_len] at hw
  have hm : mn (s.size : Int) 4 = ((min s.size 4 : Nat) : Int) := by unfold mn; split <;> omega
  induction d with
  | zero =>
    intro j hj hd
    refine Ev.step (f := fun _ => some (((nxt (D s)).2.1 : Nat) : Int)) (fun k => ?_) (Ev.now _)
    simp only [utf_part.l0]
    rw [hm, if_neg (by omega)]
    congr 2
    unfold val
    split <;> omega
  | succ d ih =>
    intro j hj hd
    obtain ⟨b, hf, h1, h2⟩ := full_at s h hb j hj (by omega) (by omega)
    have hn : wrap64 ((j : Int) + 1) = ((j + 1 : Nat) : Int) := next (by omega)
    have hi := ih (j + 1) (by omega) (by omega)
    cases b with
    | true =>
      refine Ev.step (fun k => ?_) hi
      simp only [utf_part.l0]
      rw [hm, if_pos (by omega), if_pos (by omega), if_pos (by omega), Int.toNat_natCast, hf, Option.bind_some, if_pos rfl, hn]
      have : val (nxt (D s)).2.1 j = val (nxt (D s)).2.1 (j + 1) := by
        have := h1 rfl
        unfold val
        split <;> split <;> omega
      rw [this]
    | false =>
      refine Ev.step (fun k => ?_) hi
      simp only [utf_part.l0]
      rw [hm, if_pos (by omega), if_pos (by omega), if_pos (by omega), Int.toNat_natCast, hf, Option.bind_some, if_neg (by simp), hn]
      have : j = val (nxt (D s)).2.1 (j + 1) := by
        have := h2 rfl
        unfold val
        split <;> omega
      rw [← this]
/-- What an answer of Next is. -/
def told (p : Nat × Nat × Bool) : Int × Int × Int := (((p.1 : Nat) : Int), ((p.2.1 : Nat) : Int), if p.2.2 then 0 else 9)
theorem next_ev (s : ByteArray) (hs : s.size ≤ 1000000000000000000) (h : D s ≠ []) : Ev (fun k => utf_Next.f k s) (told (nxt (D s))) := by
  unfold utf_Next.f utf8_DecodeRuneInString.f
  refine Ev.congr (fun k => if_neg (fun e => h ((D_nil s).1 e))) ?_
  simp only [Option.bind_some]
  rw [decodeGo_D s h]
  cases hb : (nxt (D s)).2.2 with
  | true =>
    have hr := (U8.nxt_ok h hb)
    have : ¬ ((nxt (D s)).1 = 65533 ∧ (nxt (D s)).2.1 = 1) := by
      rintro ⟨e1, e2⟩
      have h2 := congrArg List.length hr.2
      rw [e1, e2, List.length_take, show (encB 65533).length = 3 from by decide] at h2
      omega
    simp only [if_true]
    unfold told
    rw [hb]
    refine Ev.congr (f := fun _ => some ((((nxt (D s)).1 : Nat) : Int), (((nxt (D s)).2.1 : Nat) : Int), 0)) (fun k => ?_) (Ev.now _)
    by_cases c1 : (((nxt (D s)).1 : Nat) : Int) = 65533
    · rw [if_pos c1, if_neg (by omega)]
    · rw [if_neg c1]
  | false =>
    simp only [Bool.false_eq_true, if_false]
    refine Ev.congr (fun k => if_pos rfl) ?_
    refine Ev.congr (fun k => if_pos rfl) ?_
    unfold told
    rw [hb, U8.nxt_bad hb]
    have hw := U8.nxt_width h
    rw [D_len] at hw
    have hp := part_loop s hs h hb (min s.size 4) 1 (Nat.le_refl _) (by omega)
    exact Ev.bind (f := fun _ t => some (65533, t, 9)) hp (Ev.now _)
/-! the reference's -/
theorem size_ev (b : Nat) (hb : b < 256) : Ev (fun k => cringleref02_size.f k (b : Int)) (if b < 128 then 1 else if Lib.firstT b = 241 then 0 else ((Lib.firstT b % 8 : Nat) : Int)) := by
  have key : ∀ i : Fin 256, cringleref02_size.f 5 ((i.val : Nat) : Int) = some (if i.val < 128 then 1 else if Lib.firstT i.val = 241 then 0 else ((Lib.firstT i.val % 8 : Nat) : Int)) := by decide +kernel
  exact Ev.of (fun k => cringleref02_size.mono _ k) (key ⟨b, hb⟩)
theorem good_one (b : Nat) (hb : b < 256) (h0 : ¬ b < 128) (h1 : ¬ Lib.firstT b = 241) (c : Nat) : cringleref02_good.f (b : Int) 1 (c : Int) = some (decide (Lib.accLo (Lib.firstT b / 16) ≤ c ∧ c ≤ Lib.accHi (Lib.firstT b / 16))) := by
  have hc := U8.firstT_classes b
  obtain ⟨a1, a2, a3, a4, a5, a6, a7⟩ := U8.acc_of (Lib.firstT b)
  have fin : ∀ lo hi : Nat, (if (c : Int) ≥ (lo : Int) then some (decide ((c : Int) ≤ (hi : Int))) else some false) = some (decide (lo ≤ c ∧ c ≤ hi)) := fun lo hi => by
    by_cases g : (c : Int) ≥ (lo : Int)
    · rw [if_pos g]
      congr 1
      by_cases g2 : (c : Int) ≤ (hi : Int)
      · rw [decide_eq_true g2, decide_eq_true (by omega)]
      · rw [decide_eq_false g2, decide_eq_false (by omega)]
    · rw [if_neg g, decide_eq_false (by omega)]
  unfold cringleref02_good.f
  rw [if_pos rfl]
  rcases hc with ⟨hb, ht⟩ | ⟨hb, ht⟩ | ⟨hb, hb', ht⟩ | ⟨hb, ht⟩ | ⟨hb, ht⟩ | ⟨hb, ht⟩ | ⟨hb, ht⟩ | ⟨hb, hb', ht⟩ | ⟨hb, ht⟩
  · omega
  · omega
  · rw [(a1 ht).1, (a1 ht).2, if_neg (by omega), if_neg (by omega), if_neg (by omega), if_neg (by omega)]; exact fin 128 191
  · rw [(a2 ht).1, (a2 ht).2, if_pos (by omega)]; exact fin 160 191
  · rw [(a3 ht).1, (a3 ht).2, if_neg (by omega), if_neg (by omega), if_neg (by omega), if_neg (by omega)]; exact fin 128 191
  · rw [(a4 ht).1, (a4 ht).2, if_neg (by omega), if_pos (by omega)]; exact fin 128 159
  · rw [(a5 ht).1, (a5 ht).2, if_neg (by omega), if_neg (by omega), if_pos (by omega)]; exact fin 144 191
  · rw [(a6 ht).1, (a6 ht).2, if_neg (by omega), if_neg (by omega), if_neg (by omega), if_neg (by omega)]; exact fin 128 191
  · rw [(a7 ht).1, (a7 ht).2, if_neg (by omega), if_neg (by omega), if_neg (by omega), if_pos (by omega)]; exact fin 128 143
theorem good_more (b : Int) (i c : Nat) (hi : 2 ≤ i) : cringleref02_good.f b (i : Int) (c : Int) = some (decide (128 ≤ c ∧ c ≤ 191)) := by
  unfold cringleref02_good.f
  rw [if_neg (by omega)]
  by_cases g : (c : Int) ≥ 128
  · rw [if_pos g]
    congr 1
    by_cases g2 : (c : Int) ≤ 191
    · rw [decide_eq_true g2, decide_eq_true (by omega)]
    · rw [decide_eq_false g2, decide_eq_false (by omega)]
  · rw [if_neg g, decide_eq_false (by omega)]
section
variable (s : ByteArray) (z : Nat)
theorem step_good (i : Nat) (hi : 1 ≤ i) (hz : i < z) (hn : i < s.size) (hi4 : i ≤ 4) (hg : cringleref02_good.f (bt s 0) (i : Int) (bt s (i : Int)) = some true) {r : Int × Int × Int} (h : Ev (fun k => cringleref02_Next.l0 k s (z : Int) ((i + 1 : Nat) : Int)) r) : Ev (fun k => cringleref02_Next.l0 k s (z : Int) (i : Int)) r := by
  refine Ev.step (fun k => ?_) h
  simp only [cringleref02_Next.l0]
  rw [if_pos (by omega), if_pos (by omega), if_pos (by omega), if_pos (by omega), hg, Option.bind_some, if_pos rfl, next (by omega)]
theorem step_bad (i : Nat) (hi : 1 ≤ i) (hz : i < z) (hg : i < s.size → cringleref02_good.f (bt s 0) (i : Int) (bt s (i : Int)) = some false) : Ev (fun k => cringleref02_Next.l0 k s (z : Int) (i : Int)) (65533, (i : Int), 9) := by
  refine Ev.step (f := fun k => cringleref02_Next.j1 k s (z : Int) (i : Int)) (fun k => ?_) ?_
  · simp only [cringleref02_Next.l0]
    by_cases hn : i < s.size
    · rw [if_pos (by omega), if_pos (by omega), if_pos (by omega), if_pos (by omega), hg hn, Option.bind_some, if_neg (by simp)]
    · rw [if_pos (by omega), if_neg (by omega)]
  · refine Ev.step (f := fun _ => some (65533, (i : Int), 9)) (fun k => ?_) (Ev.now _)
    simp only [cringleref02_Next.j1]
    rw [if_pos (by omega)]
/-- How the number begins. -/
def head (z b : Nat) : Int := if z = 2 then (b : Int) - 192 else if z = 3 then (b : Int) - 224 else if z = 4 then (b : Int) - 240 else (b : Int)
theorem step_end (h1 : 1 ≤ z) (h4 : z ≤ 4) (hn : 0 < s.size) {r : Int × Int × Int} (h : Ev (fun k => cringleref02_Next.l1 k s (z : Int) (head z (B (D s) 0)) 1) r) : Ev (fun k => cringleref02_Next.l0 k s (z : Int) (z : Int)) r := by
  have hb := U8.B_lt (D s) 0
  have h0 : bt s 0 = ((B (D s) 0 : Nat) : Int) := bt_B s 0
  have hw : wrap32 (bt s 0) = ((B (D s) 0 : Nat) : Int) := by rw [h0]; unfold wrap32; omega
  refine Ev.step (f := fun k => cringleref02_Next.j1 k s (z : Int) (z : Int)) (fun k => ?_) ?_
  · simp only [cringleref02_Next.l0]
    rw [if_neg (by omega)]
  refine Ev.step (f := fun k => cringleref02_Next.j2 k s (z : Int) (head z (B (D s) 0))) (fun k => ?_) ?_
  · simp only [cringleref02_Next.j1]
    rw [if_neg (by omega), if_pos (by omega), hw]
    unfold head
    have hwr : ∀ m : Int, 0 ≤ m → m ≤ 240 → wrap32 (((B (D s) 0 : Nat) : Int) - m) = ((B (D s) 0 : Nat) : Int) - m := fun m _ _ => by unfold wrap32; omega
    by_cases e2 : z = 2
    · rw [if_pos (by omega), if_pos e2, hwr _ (by omega) (by omega)]
    by_cases e3 : z = 3
    · rw [if_neg (by omega), if_neg e2, if_pos (by omega), if_pos e3, hwr _ (by omega) (by omega)]
    by_cases e4 : z = 4
    · rw [if_neg (by omega), if_neg e2, if_neg (by omega), if_neg e3, if_pos (by omega), if_pos e4, hwr _ (by omega) (by omega)]
    · rw [if_neg (by omega), if_neg e2, if_neg (by omega), if_neg e3, if_neg (by omega), if_neg e4]
  · refine Ev.step (fun k => ?_) h
    simp only [cringleref02_Next.j2]
theorem step_num (i : Nat) (c : Int) (hi : i < z) (hn : i < s.size) (hc : -256 ≤ c ∧ c ≤ 1048576) (hi4 : i ≤ 4) {r : Int × Int × Int} (h : Ev (fun k => cringleref02_Next.l1 k s (z : Int) (c * 64 + (B (D s) i : Nat) - 128) ((i + 1 : Nat) : Int)) r) : Ev (fun k => cringleref02_Next.l1 k s (z : Int) c (i : Int)) r := by
  have hb := U8.B_lt (D s) i
  refine Ev.step (fun k => ?_) h
  simp only [cringleref02_Next.l1]
  rw [if_pos (by omega), if_pos (by omega), if_pos (by omega), bt_B, next (by omega)]
  have e1 : wrap32 (c * 64) = c * 64 := by unfold wrap32; omega
  have e2 : wrap32 (((B (D s) i : Nat) : Int)) = ((B (D s) i : Nat) : Int) := by unfold wrap32; omega
  rw [e1, e2]
  have e3 : wrap32 (c * 64 + ((B (D s) i : Nat) : Int)) = c * 64 + ((B (D s) i : Nat) : Int) := by unfold wrap32; omega
  rw [e3]
  have e4 : wrap32 (c * 64 + ((B (D s) i : Nat) : Int) - 128) = c * 64 + ((B (D s) i : Nat) : Int) - 128 := by unfold wrap32; omega
  rw [e4]
theorem step_told (i : Nat) (c : Int) (hi : ¬ i < z) : Ev (fun k => cringleref02_Next.l1 k s (z : Int) c (i : Int)) (c, (z : Int), 0) := by
  refine Ev.step (f := fun _ => some (c, (z : Int), 0)) (fun k => ?_) (Ev.now _)
  simp only [cringleref02_Next.l1]
  rw [if_neg (by omega)]
end
theorem lead (b : Nat) (h : ¬ b < 128) (ht : ¬ Lib.firstT b = 241) : 2 ≤ Lib.firstT b % 8 ∧ Lib.firstT b % 8 ≤ 4 ∧ 128 ≤ Lib.accLo (Lib.firstT b / 16) ∧ Lib.accHi (Lib.firstT b / 16) ≤ 191 ∧ (Lib.firstT b % 8 = 2 → 194 ≤ b ∧ b < 224) ∧ (Lib.firstT b % 8 = 3 → 224 ≤ b ∧ b < 240) ∧ (Lib.firstT b % 8 = 4 → 240 ≤ b ∧ b ≤ 244) := by
  rcases U8.firstT_classes b with ⟨hb, e⟩ | ⟨hb, e⟩ | ⟨hb, hb', e⟩ | ⟨hb, e⟩ | ⟨hb, e⟩ | ⟨hb, e⟩ | ⟨hb, e⟩ | ⟨hb, hb', e⟩ | ⟨hb, e⟩
  · omega
  · omega
  all_goals
    rw [e]
    refine ⟨by decide, by decide, by decide, by decide, fun k => ?_, fun k => ?_, fun k => ?_⟩ <;> first | omega | (exfalso; revert k; decide)
set_option maxHeartbeats 1000000 in
theorem rnext_ev (s : ByteArray) (hs : s.size ≤ 1000000000000000000) (h : D s ≠ []) : Ev (fun k => cringleref02_Next.f k s) (told (nxt (D s))) := by
  have hn0 : 0 < s.size := by rw [← D_len]; exact List.length_pos_iff.2 h
  have h0 : bt s 0 = ((B (D s) 0 : Nat) : Int) := bt_B s 0
  have hb0 := U8.B_lt (D s) 0
  have hb1 := U8.B_lt (D s) 1
  have hb2 := U8.B_lt (D s) 2
  have hb3 := U8.B_lt (D s) 3
  unfold cringleref02_Next.f
  refine Ev.congr (fun k => if_neg (fun e => h ((D_nil s).1 e))) ?_
  refine Ev.congr (fun k => if_pos (by omega)) ?_
  rw [h0]
  refine Ev.bind (size_ev _ hb0) ?_
  unfold told nxt spec
  rw [D_len]
  by_cases hb : B (D s) 0 < 128
  · simp only [if_pos hb]
    refine Ev.congr (fun k => if_neg (by decide)) ?_
    refine step_end s 1 (by omega) (by omega) hn0 ?_
    exact step_told s 1 1 _ (by omega)
  simp only [if_neg hb]
  by_cases ht : Lib.firstT (B (D s) 0) = 241
  · simp only [if_pos ht]
    exact Ev.congr (fun k => if_pos trivial) (Ev.now _)
  simp only [if_neg ht]
  obtain ⟨z1, z2, z3, z4, z5, z6, z7⟩ := lead _ hb ht
  refine Ev.congr (fun k => if_neg (by omega)) ?_
  have g1 := good_one (B (D s) 0) hb0 hb ht (B (D s) 1)
  rw [← h0, ← bt_B s 1] at g1
  by_cases b1 : s.size ≤ 1 ∨ B (D s) 1 < Lib.accLo (Lib.firstT (B (D s) 0) / 16) ∨ Lib.accHi (Lib.firstT (B (D s) 0) / 16) < B (D s) 1
  · rw [if_pos b1]
    refine step_bad s _ 1 (by omega) (by omega) (fun hlt => ?_)
    exact g1.trans (congrArg some (decide_eq_false (by omega)))
  rw [if_neg b1]
  refine step_good s _ 1 (by omega) (by omega) (by omega) (by omega) (g1.trans (congrArg some (decide_eq_true (by omega)))) ?_
  by_cases s2 : Lib.firstT (B (D s) 0) % 8 ≤ 2
  · rw [if_pos s2]
    have hz2 : Lib.firstT (B (D s) 0) % 8 = 2 := by omega
    have y := z5 hz2
    clear z5 z6 z7
    generalize Lib.accLo (Lib.firstT (B (D s) 0) / 16) = lo at *
    generalize Lib.accHi (Lib.firstT (B (D s) 0) / 16) = hi at *
    rw [hz2]
    refine step_end s 2 (by omega) (by omega) hn0 ?_
    have hh : head 2 (B (D s) 0) = ((B (D s) 0 : Nat) : Int) - 192 := rfl
    rw [hh]
    refine step_num s 2 1 _ (by omega) (by omega) (by omega) (by omega) ?_
    have hv : (((B (D s) 0 : Nat) : Int) - 192) * 64 + ((B (D s) 1 : Nat) : Int) - 128 = ((B (D s) 0 % 32 * 64 + B (D s) 1 % 64 : Nat) : Int) := by omega
    rw [hv]
    exact step_told s 2 2 _ (by omega)
  rw [if_neg s2]
  have g2 := good_more (bt s 0) 2 (B (D s) 2) (by omega)
  rw [← bt_B s 2] at g2
  by_cases b2 : s.size ≤ 2 ∨ B (D s) 2 < 128 ∨ 191 < B (D s) 2
  · rw [if_pos b2]
    refine step_bad s _ 2 (by omega) (by omega) (fun hlt => ?_)
    exact g2.trans (congrArg some (decide_eq_false (by omega)))
  rw [if_neg b2]
  refine step_good s _ 2 (by omega) (by omega) (by omega) (by omega) (g2.trans (congrArg some (decide_eq_true (by omega)))) ?_
  by_cases s3 : Lib.firstT (B (D s) 0) % 8 ≤ 3
  · rw [if_pos s3]
    have hz3 : Lib.firstT (B (D s) 0) % 8 = 3 := by omega
    have y := z6 hz3
    clear z5 z6 z7
    generalize Lib.accLo (Lib.firstT (B (D s) 0) / 16) = lo at *
    generalize Lib.accHi (Lib.firstT (B (D s) 0) / 16) = hi at *
    rw [hz3]
    refine step_end s 3 (by omega) (by omega) hn0 ?_
    have hh : head 3 (B (D s) 0) = ((B (D s) 0 : Nat) : Int) - 224 := rfl
    rw [hh]
    refine step_num s 3 1 _ (by omega) (by omega) (by omega) (by omega) ?_
    refine step_num s 3 2 _ (by omega) (by omega) (by omega) (by omega) ?_
    have hv : ((((B (D s) 0 : Nat) : Int) - 224) * 64 + ((B (D s) 1 : Nat) : Int) - 128) * 64 + ((B (D s) 2 : Nat) : Int) - 128 = ((B (D s) 0 % 16 * 4096 + B (D s) 1 % 64 * 64 + B (D s) 2 % 64 : Nat) : Int) := by omega
    rw [hv]
    exact step_told s 3 3 _ (by omega)
  rw [if_neg s3]
  have hz4 : Lib.firstT (B (D s) 0) % 8 = 4 := by omega
  have y := z7 hz4
  clear z5 z6 z7
  generalize Lib.accLo (Lib.firstT (B (D s) 0) / 16) = lo at *
  generalize Lib.accHi (Lib.firstT (B (D s) 0) / 16) = hi at *
  rw [hz4]
  have g3 := good_more (bt s 0) 3 (B (D s) 3) (by omega)
  rw [← bt_B s 3] at g3
  by_cases b3 : s.size ≤ 3 ∨ B (D s) 3 < 128 ∨ 191 < B (D s) 3
  · rw [if_pos b3]
    refine step_bad s _ 3 (by omega) (by omega) (fun hlt => ?_)
    exact g3.trans (congrArg some (decide_eq_false (by omega)))
  rw [if_neg b3]
  refine step_good s _ 3 (by omega) (by omega) (by omega) (by omega) (g3.trans (congrArg some (decide_eq_true (by omega)))) ?_
  refine step_end s 4 (by omega) (by omega) hn0 ?_
  have hh : head 4 (B (D s) 0) = ((B (D s) 0 : Nat) : Int) - 240 := rfl
  rw [hh]
  refine step_num s 4 1 _ (by omega) (by omega) (by omega) (by omega) ?_
  refine step_num s 4 2 _ (by omega) (by omega) (by omega) (by omega) ?_
  refine step_num s 4 3 _ (by omega) (by omega) (by omega) (by omega) ?_
  have hv : (((((B (D s) 0 : Nat) : Int) - 240) * 64 + ((B (D s) 1 : Nat) : Int) - 128) * 64 + ((B (D s) 2 : Nat) : Int) - 128) * 64 + ((B (D s) 3 : Nat) : Int) - 128 = ((B (D s) 0 % 8 * 262144 + B (D s) 1 % 64 * 4096 + B (D s) 2 % 64 * 64 + B (D s) 3 % 64 : Nat) : Int) := by omega
  rw [hv]
  exact step_told s 4 4 _ (by omega)
end Go.Proofs.YtmaeodkdddbhoaaDoor.Plain
