/- Params, far, and the law of what is got, walked. No condition but those typed. -/
import Derived.Test.YtljlkpfiebcoeaaGreatDoorHw4
import Derived.Lib.AppendZerosOnto
namespace Go.Proofs.YtljlkpfiebcoeaaGreatDoor.H
open Go.RowKit Go.Sort Go.Shelf Go.Proofs.YtljlkpfiebcoeaaGreatDoor.Q Go.Proofs.YtljlkpfiebcoeaaGreatDoorW.PrintWords Go.Proofs.YtljlkpfiebcoeaaGreatDoorW.PrintLast Go.Proofs.YtljlkpfiebcoeaaGreatDoorW.PrintMore
attribute [local go_sem] max2_int min2_int max_two min_two max_three min_three max_four min_four   -- for this text's walks alone
set_option linter.unusedVariables false
set_option linter.unusedSimpArgs false
set_option maxRecDepth 100000
/-! ### Words of what is trimmed: plain -/
theorem wd_lead : ∀ l : List Int, Plain.wd [] (Plain.trimL l) = Plain.wd [] l
  | [] => rfl
  | x :: l => by
    rw [Plain.trimL_cons]
    split
    · rename_i h
      rw [wd_lead l, Plain.wd, if_pos h, if_pos rfl]
    · rfl
theorem wd_tail (x : Int) (hx : Plain.isB x = true) : ∀ (l acc : List Int), Plain.wd acc (l ++ [x]) = Plain.wd acc l
  | [], acc => by
    rw [List.nil_append]
    simp only [Plain.wd]
    rw [if_pos hx]
    simp
  | y :: l, acc => by
    rw [List.cons_append, Plain.wd, Plain.wd]
    split
    · rw [wd_tail x hx l []]
    · rw [wd_tail x hx l _]
theorem wd_trimR (n : Nat) : ∀ (l acc : List Int), l.length = n → Plain.wd acc (Plain.trimR l) = Plain.wd acc l := by
  induction n with
  | zero => intro l acc h; rw [List.eq_nil_of_length_eq_zero h]; rfl
  | succ n ih =>
    intro l acc h
    rcases List.eq_nil_or_concat l with rfl | ⟨m, x, rfl⟩
    · rfl
    · rw [List.concat_eq_append] at h ⊢
      rw [Plain.trimR_snoc]
      split
      · rename_i hx
        rw [ih m acc (by simp at h; omega), wd_tail x hx]
      · rfl
theorem wd_trim (l : List Int) : Plain.wd [] (Plain.trim l) = Plain.wd [] l := by
  unfold Plain.trim
  rw [wd_lead, wd_trimR _ l [] rfl]
theorem wd_some (l : List Int) : ∀ acc, (acc ≠ [] ∨ ∃ x ∈ l, Plain.isB x = false) → Plain.wd acc l ≠ [] := by
  induction l with
  | nil =>
    intro acc h
    rcases h with h | ⟨x, hx, _⟩
    · rw [Plain.wd, if_neg h]
      simp
    · cases hx
  | cons y l ih =>
    intro acc h
    rw [Plain.wd]
    split
    · rename_i hy
      split
      · rename_i ha
        refine ih [] (.inr ?_)
        rcases h with h | ⟨x, hx, hb⟩
        · exact absurd ha h
        · rcases List.mem_cons.1 hx with rfl | hx
          · rw [hb] at hy; cases hy
          · exact ⟨x, hx, hb⟩
      · simp
    · exact ih _ (.inl (by simp))
theorem wd_two (l : List Int) : ∀ acc, acc ≠ [] → (∀ x, l.getLast? = some x → Plain.isB x = false) → (∃ b ∈ l, Plain.isB b = true) → 2 ≤ (Plain.wd acc l).length := by
  induction l with
  | nil => intro acc _ _ ⟨b, hb, _⟩; cases hb
  | cons y l ih =>
    intro acc ha hl ⟨b, hb, hbb⟩
    have hne : l ≠ [] ∨ l = [] := by cases l <;> simp
    have hl' : ∀ x, l.getLast? = some x → Plain.isB x = false := fun x hx => hl x (by
      cases l with
      | nil => cases hx
      | cons a t => rw [List.getLast?_cons_cons]; exact hx)
    rw [Plain.wd]
    split
    · rename_i hy
      first | rw [if_neg ha, List.length_cons] | rw [List.length_cons]
      have h1 : Plain.wd [] l ≠ [] := wd_some l [] (.inr (by
        cases hq : l.getLast? with
        | none =>
          rw [List.getLast?_eq_none_iff] at hq
          have := hl y (by rw [hq]; rfl)
          rw [this] at hy
          cases hy
        | some z => exact ⟨z, List.mem_of_getLast? hq, hl' z hq⟩))
      have := List.length_pos_iff.2 h1
      omega
    · rename_i hy
      refine ih _ (by simp) hl' ?_
      rcases List.mem_cons.1 hb with rfl | hb
      · exact absurd hbb hy
      · exact ⟨b, hb, hbb⟩
theorem wd_no (q : List Int) : ∀ acc, acc ++ q ≠ [] → (∀ x ∈ q, Plain.isB x = false) → Plain.wd acc q = [acc ++ q] := by
  induction q with
  | nil => intro acc h _; rw [List.append_nil] at h ⊢; rw [Plain.wd, if_neg h]
  | cons x q ih =>
    intro acc _ h
    rw [Plain.wd, if_neg (by rw [h x (by simp)]; simp), ih _ (by simp) (fun y hy => h y (by simp [hy]))]
    simp
theorem wd_single {l w : List Int} (h1 : ∀ x, l.head? = some x → Plain.isB x = false) (h2 : ∀ x, l.getLast? = some x → Plain.isB x = false) (h : Plain.wd [] l = [w]) : l = w := by
  cases l with
  | nil => simp [Plain.wd] at h
  | cons x r =>
    have hx := h1 x rfl
    by_cases hb : ∃ b ∈ r, Plain.isB b = true
    · rw [Plain.wd, if_neg (by rw [hx]; simp)] at h
      have := wd_two r ([] ++ [x]) (by simp) (fun z hz => h2 z (by
        cases r with
        | nil => cases hz
        | cons a t => rw [List.getLast?_cons_cons]; exact hz)) hb
      rw [h] at this
      simp at this
    · have := wd_no (x :: r) [] (by simp) (fun y hy => by
        rcases List.mem_cons.1 hy with rfl | hy
        · exact hx
        · cases hq : Plain.isB y with
          | false => rfl
          | true => exact absurd ⟨y, hy, hq⟩ hb)
      rw [this] at h
      simpa using h
/-! ### slices.Grow (72), slices.Concat (48) of two rows, Params (20) -/
theorem one_row {w : World} {base : Nat} {cur : Array Value} {cap : Nat} (hb : base ≤ w.heap.size) (hm : cap ≤ maxLen) (hs : cur.size = cap * 1) : Kd.R Kd.string 9 (w.alloc (.cells cur 9)) base (fun _ => True) (.slice (some ⟨w.heap.size, 0, none⟩) 0 cap) [] :=
  Kd.R_of_own (World.ownsRow_made w cur cap hb hm hs) (fun _ _ => trivial)
theorem strict_fit {n : Nat} (hn : n ≤ 1000000) : n * 16 ≤ 281474976710656 := by omega
theorem strict_fit2 {n : Nat} (hn : n ≤ 1000000) : (0 + n) * 16 ≤ 140737488355328 := by omega
theorem n63 {n : Nat} (hn : n ≤ 1000000) : n ≤ 9223372036854775807 := by omega
theorem n63' {n : Nat} (hn : n ≤ 1000000) : ((0 + n : Nat) : Int) ≤ 9223372036854775807 := by omega
theorem w_nat {n : Nat} (hn : n ≤ 1000000) : wrap64 ((n : Int) - 0) = (n : Int) := by unfold wrap64; omega
set_option maxHeartbeats 2000000 in
theorem p_Grow.calls (n : Nat) (hn : n ≤ 1000000) (w : World) : Calls Tryz.prog 72 #[.slice none 0 0, .int .i64 n] w fun e w' => ∃ v, e = .returned v ∧ Kd.R Kd.string 9 w' w.heap.size (fun _ => True) v [] ∧ Below w.heap.size w w' := by
  have e1 : wrap64 ((0 : Int) - 0) = 0 := by unfold wrap64; omega
  have e2 := w_nat hn
  have h0 : decide ((n : Int) < 0) = false := decide_eq_false (by omega)
  by_cases hz : n = 0
  · subst hz
    clear hn e2 h0
    go_enter Tryz.func72, Tryz.ntmps72
    go_wp2_with fail
    go_ret
    exact ⟨_, rfl, Kd.R_nil _ _ _ _ _, Below.refl _ _⟩
  · obtain ⟨i, hi, hz0, hz1, hz2⟩ := info_parts info9
    have hgr : decide ((n : Int) > 0) = true := decide_eq_true (by omega)
    have hold : (Builtin.firstCells i.size 0 (.slice none 0 0)).run Tryz.prog w.drew = .ok ([] : List Value).toArray w.drew := run_firstCells_none w.drew i.size 0 0 0
    have hbz : n * i.bytes ≤ 281474976710656 := by rw [hz2]; exact strict_fit hn
    have hfit : Builtin.nextslicecap (0 + n) 0 * i.bytes ≤ 281474976710656 := growslice_fits (by omega) (by rw [hz2]; exact strict_fit2 hn)
    have hrz := Lib.run_append_grow_zeros w 49 3 49 9 i (.string ⟨#[]⟩) .i64 .i64 Tryz.underlying49 Tryz.underlying3 hi hz0 none 0 0 [] hold n (by omega) (by rw [hz1]; decide) (by omega) (n63' hn) hbz hfit
    rw [Nat.zero_add] at hrz
    have hGn : n ≤ grownCap w n 0 9 := grownCap_ge w _ _ _
    have hGm : grownCap w n 0 9 ≤ maxLen := grownCap_le_maxLen w n 0 9 (by unfold maxLen; omega)
    generalize grownCap w n 0 9 = G at hrz hGn hGm
    have HR := Aside0.mk (one_row (w := w.drew) (base := w.heap.size) (Nat.le_refl _) hGm (cur := ([] : List Value).toArray ++ Builtin.zeroCells (Value.string ⟨#[]⟩).cells n ++ Builtin.zeroCells (Value.string ⟨#[]⟩).cells (G - n)) (by
      simp [Builtin.zeroCells, Value.cells]
      omega))
    have HB := Aside0.mk (show Below w.heap.size w (w.drew.alloc (.cells (([] : List Value).toArray ++ Builtin.zeroCells (Value.string ⟨#[]⟩).cells n ++ Builtin.zeroCells (Value.string ⟨#[]⟩).cells (G - n)) 9)) from below_alloc (below_drew (Below.refl _ _)) _)
    have hG0 : (0 : Int) ≤ (G : Int) := by omega
    obtain ⟨W1, hW1⟩ : ∃ W, W = w.drew.alloc (.cells (([] : List Value).toArray ++ Builtin.zeroCells (Value.string ⟨#[]⟩).cells n ++ Builtin.zeroCells (Value.string ⟨#[]⟩).cells (G - n)) 9) := ⟨_, rfl⟩
    rw [← hW1] at hrz HR HB
    have hng : (n : Int) ≤ (G : Int) := by omega
    have hpos : 0 < n := by omega
    clear hi hz0 hz1 hz2 hold hbz hfit hGn hGm hW1 hz
    go_enter Tryz.func72, Tryz.ntmps72
    go_wp2_with (at_builtin; refine Lib.wpList_append_run _ rfl _ _ _ _ rfl _ _ rfl rfl _ _ hrz ?_)
    go_ret
    exact ⟨_, rfl, HR.out, HB.out⟩
theorem w_sum {a b N : Nat} (h : N = a + b) (hn : N ≤ 1000000) : wrap64 ((a : Int) + (b : Int)) = (N : Int) := by unfold wrap64; omega
theorem w_zero {a : Nat} (hn : a ≤ 1000000) : wrap64 (a : Int) = (a : Int) := by unfold wrap64; omega
theorem neg_no (a : Nat) : decide ((a : Int) < 0) = false := decide_eq_false (by omega)
theorem len_fit {a b : Nat} (h : a + b ≤ 1000000) : (a + b) * 16 ≤ 140737488355328 := by omega
set_option maxHeartbeats 4000000 in
theorem p_Concat.calls {g c : Nat} {A1 A2 : Option Addr} {c1 c2 : Nat} {l1 l2 : List ByteArray} {w : World} (hg : Blk.At g #[.slice A1 l1.length c1, .slice A2 l2.length c2] 49 w) (h1 : Kd.C Kd.string w A1 l1.length l1) (h2 : Kd.C Kd.string w A2 l2.length l2) (hn : l1.length + l2.length ≤ 1000000) :
    Calls Tryz.prog 48 #[.slice (some ⟨g, 0, none⟩) 2 c] w fun e w' => ∃ v, e = .returned v ∧ Kd.R Kd.string 9 w' w.heap.size (fun _ => True) v (l1 ++ l2) ∧ Below w.heap.size w w' := by
  obtain ⟨N, hN⟩ : ∃ N, N = l1.length + l2.length := ⟨_, rfl⟩
  have HGR := Aside0.mk (p_Grow.calls N (by omega))
  have es := w_sum hN (by omega)
  have ez := w_zero (a := l1.length) (by omega)
  have g1 := neg_no l1.length
  have g2 := neg_no N
  have HG := Aside0.mk hg
  have H1 := Aside0.mk h1
  have H2 := Aside0.mk h2
  have HN := Aside0.mk hn
  clear hg h1 h2 hn hN
  go_enter Tryz.func48, Tryz.ntmps48
  go_wp2_with fail
  go_loopw [11, 3] (fun j s wr => (j = .int .i64 0 ∧ s = .int .i64 0 ∨ j = .int .i64 1 ∧ s = .int .i64 l1.length ∨ j = .int .i64 2 ∧ s = .int .i64 N) ∧ Aside0 (Below w.heap.size w wr)) (fun j _ _ => 2 - (intOf j).toNat)
  case atStart => exact ⟨.inl ⟨rfl, rfl⟩, ⟨Below.refl _ _⟩⟩
  case round =>
    obtain ⟨hj, HB⟩ := hrel
    have k0 : wr.cell? ⟨g, 0, none⟩ = some (.slice A1 l1.length c1) := (HG.out.below HB.out HG.out.lt).cell 0
    have k1 : wr.cell? ⟨g, 1, none⟩ = some (.slice A2 l2.length c2) := (HG.out.below HB.out HG.out.lt).cell 1
    rcases hj with ⟨rfl, rfl⟩ | ⟨rfl, rfl⟩ | ⟨rfl, rfl⟩
    · have gz : ¬ ((l1.length : Int) < 0) := by omega
      go_wp2_with fail
      rw [ez]
      go_roundw
      case rel => exact ⟨.inr (.inl ⟨rfl, rfl⟩), HB⟩
      case measure => decide
    · have gz : ¬ ((N : Int) < 0) := by omega
      go_wp2_with fail
      rw [es]
      go_roundw
      case rel => exact ⟨.inr (.inr ⟨rfl, rfl⟩), HB⟩
      case measure => decide
    · have hgr := HGR.out wr
      go_wp2_with fail
      refine hgr.mono ?_
      rintro e w2 ⟨v, rfl, hr, hb⟩
      have HB2 := Aside0.mk (below_step HB.out hb)
      have HR2 := Aside0.mk (Kd.R_lower hr HB.out.size)
      clear hr hb hgr k0 k1 HB
      go_wp2_with fail
      go_loopw [27, 6] (fun j v wr => (j = .int .i64 0 ∧ Aside0 (Kd.R Kd.string 9 wr w.heap.size (fun _ => True) v []) ∨ j = .int .i64 1 ∧ Aside0 (Kd.R Kd.string 9 wr w.heap.size (fun _ => True) v l1) ∨ j = .int .i64 2 ∧ Aside0 (Kd.R Kd.string 9 wr w.heap.size (fun _ => True) v (l1 ++ l2))) ∧ Aside0 (Below w.heap.size w wr)) (fun j _ _ => 2 - (intOf j).toNat)
      case atStart => exact ⟨.inl ⟨rfl, HR2⟩, HB2⟩
      case round =>
        clear HR2 HB2
        obtain ⟨hj, HB⟩ := hrel
        have k0 : wr.cell? ⟨g, 0, none⟩ = some (.slice A1 l1.length c1) := (HG.out.below HB.out HG.out.lt).cell 0
        have k1 : wr.cell? ⟨g, 1, none⟩ = some (.slice A2 l2.length c2) := (HG.out.below HB.out HG.out.lt).cell 1
        have HC1 := Aside0.mk (Kd.C_below H1.out HB.out)
        have HC2 := Aside0.mk (Kd.C_below H2.out HB.out)
        rcases hj with ⟨rfl, HR⟩ | ⟨rfl, HR⟩ | ⟨rfl, HR⟩
        · have HL := Aside0.mk (show (([] : List ByteArray).length + l1.length) * 16 ≤ 140737488355328 from len_fit (by have := HN.out; show 0 + l1.length ≤ _; omega))
          go_wp2_with (at_builtin; refine Kd.R_append_rows Kd.string (Rr := Kd.string.K wr) (w0 := w) w.heap.size rfl (.tmp 31) (.tmp 32) 49 9 (.string ⟨#[]⟩) 16 rfl Tryz.underlying49 info9 rfl (by decide) (by decide) u6 [] l1 A1 l1.length c1 (fun _ => True) (fun _ => False) rfl rfl HR.out HC1.out (fun _ _ h => h) (fun _ h => h.elim) (fun _ _ => trivial) HB.out HB.out.size HL.out ?_; intro v1 w5 ho hb _ _; have HO5 := Aside0.mk ho; have HB5 := Aside0.mk hb; clear ho hb)
          go_roundw
          case rel => exact ⟨.inr (.inl ⟨rfl, HO5⟩), HB5⟩
          case measure => decide
        · have HL := Aside0.mk (len_fit HN.out)
          go_wp2_with (at_builtin; refine Kd.R_append_rows Kd.string (Rr := Kd.string.K wr) (w0 := w) w.heap.size rfl (.tmp 31) (.tmp 32) 49 9 (.string ⟨#[]⟩) 16 rfl Tryz.underlying49 info9 rfl (by decide) (by decide) u6 l1 l2 A2 l2.length c2 (fun _ => True) (fun _ => False) rfl rfl HR.out HC2.out (fun _ _ h => h) (fun _ h => h.elim) (fun _ _ => trivial) HB.out HB.out.size HL.out ?_; intro v1 w5 ho hb _ _; have HO5 := Aside0.mk ho; have HB5 := Aside0.mk hb; clear ho hb)
          go_roundw
          case rel => exact ⟨.inr (.inr ⟨rfl, HO5⟩), HB5⟩
          case measure => decide
        · go_wp2_with fail
          go_ret
          exact ⟨_, rfl, HR.out, HB.out⟩
set_option maxHeartbeats 4000000 in
theorem p_Params.calls {Aq Af Am : Option Addr} {cq nf cf cm k1 k2 : Nat} {q v : List S105} {lv lq : List ByteArray} {m p bd name : ByteArray} {w : World} (hQ : Kd.C k105 w Aq q.length q) (hcq : q.length ≤ cq) (hV : Kd.C k105 w Am v.length v) (hcm : v.length ≤ cm) (h1 : percent_All.f k1 v name = some lv) (h2 : percent_All.f k2 q name = some lq) (hn : lv.length + lq.length ≤ 1000000) :
    Calls Tryz.prog 20 #[.agg #[.string m, .string p, .slice Aq q.length cq, .slice Af nf cf, .string bd, .slice Am v.length cm], .string name] w fun e w' => ∃ r, e = .returned r ∧ Kd.R Kd.string 9 w' w.heap.size (fun _ => True) r (lv ++ lq) ∧ Below w.heap.size w w' := by
  obtain ⟨W1, hW1⟩ : ∃ W, W = w.alloc (.cells #[.string m, .string p, .slice Aq q.length cq, .slice Af nf cf, .string bd, .slice Am v.length cm] 26) := ⟨_, rfl⟩
  have HA1 := Aside0.mk (show Blk.At w.heap.size #[.string m, .string p, .slice Aq q.length cq, .slice Af nf cf, .string bd, .slice Am v.length cm] 26 W1 from hW1 ▸ Blk.At.new w _ _)
  have HB1 := Aside0.mk (show Below w.heap.size w W1 from hW1 ▸ below_alloc (Below.refl _ _) _)
  have HAV := Aside0.mk (fun W (hb : Below w.heap.size w W) => percent_All.calls k1 Am cm v name lv W (Kd.C_below hV hb) hcm h1)
  have HAQ := Aside0.mk (fun W (hb : Below w.heap.size w W) => percent_All.calls k2 Aq cq q name lq W (Kd.C_below hQ hb) hcq h2)
  have HN := Aside0.mk hn
  have x5 : W1.cell? ⟨w.heap.size, 5, none⟩ = some (.slice Am v.length cm) := HA1.out.cell 5
  have x2 : W1.cell? ⟨w.heap.size, 2, none⟩ = some (.slice Aq q.length cq) := HA1.out.cell 2
  replace hW1 := hW1.symm
  clear hQ hcq hV hcm h1 h2 hn
  go_enter Tryz.func20, Tryz.ntmps20
  go_wp2_with fail
  refine start_ (n := 11) (S := fun w' => w'.cell? ⟨w.heap.size, 5, none⟩ = some (.slice Am v.length cm) ∧ w'.cell? ⟨w.heap.size, 2, none⟩ = some (.slice Aq q.length cq)) (ds := []) #[false, false, false, false, false, false, false, false, false, false, false] (by kernel_rfl) rfl rfl ⟨x5, x2⟩ (fun hHeld => ?_)
  refine pure_ (i := 0) (N := some 5) (v := ?_) (a' := ?_) #[true, false, false, false, false, false, false, false, false, false, false] rfl rfl (by kernel_rfl) (fun _ _ _ h => h) (Or.inl ⟨by rfl, ?_⟩) ?_ ?_
  rotate_left
  · intro w'
    go_simp
    with_reducible rfl
  rotate_left
  · simp only [Act.put, List.setIfInBounds_toArray, List.set_cons_zero, List.set_cons_succ, i64_w, i32_w]
    rfl
  refine pure_ (i := 2) (N := some 7) (v := ?_) (a' := ?_) #[true, false, true, false, false, false, false, false, false, false, false] rfl rfl (by kernel_rfl) (fun _ _ _ h => h) (Or.inl ⟨by rfl, ?_⟩) ?_ ?_
  rotate_left
  · intro w'
    go_simp
    with_reducible rfl
  rotate_left
  · simp only [Act.put, List.setIfInBounds_toArray, List.set_cons_zero, List.set_cons_succ, i64_w, i32_w]
    rfl
  refine pure_ (i := 4) (N := some 9) (v := ?_) (a' := ?_) #[true, false, true, false, true, false, false, false, false, false, false] rfl rfl (by kernel_rfl) (fun _ _ _ h => h) (Or.inl ⟨by rfl, ?_⟩) ?_ ?_
  rotate_left
  · intro w'
    go_simp
    with_reducible rfl
  rotate_left
  · simp only [Act.put, List.setIfInBounds_toArray, List.set_cons_zero, List.set_cons_succ, i64_w, i32_w]
    rfl
  refine pure_ (i := 6) (N := some 11) (v := ?_) (a' := ?_) #[true, false, true, false, true, false, true, false, false, false, false] rfl rfl (by kernel_rfl) (fun _ _ _ h => h) (Or.inl ⟨by rfl, ?_⟩) ?_ ?_
  rotate_left
  · intro w'
    go_simp
    with_reducible rfl
  rotate_left
  · simp only [Act.put, List.setIfInBounds_toArray, List.set_cons_zero, List.set_cons_succ, i64_w, i32_w]
    rfl
  refine take_ (i := 1) (N := some 6) (v := ?_) (a' := ?_) #[true, true, true, false, true, false, true, false, false, false, false] rfl rfl (by kernel_rfl) (fun _ _ _ h => h) (Or.inl ⟨by rfl, ?_⟩) hHeld ?_ ?_
  rotate_left
  · rintro w' ⟨s0, s1⟩
    go_simp
    with_reducible rfl
  rotate_left
  · simp only [Act.put, List.setIfInBounds_toArray, List.set_cons_zero, List.set_cons_succ, i64_w, i32_w]
    rfl
  refine take_ (i := 5) (N := some 10) (v := ?_) (a' := ?_) #[true, true, true, false, true, true, true, false, false, false, false] rfl rfl (by kernel_rfl) (fun _ _ _ h => h) (Or.inl ⟨by rfl, ?_⟩) hHeld ?_ ?_
  rotate_left
  · rintro w' ⟨s0, s1⟩
    go_simp
    with_reducible rfl
  rotate_left
  · simp only [Act.put, List.setIfInBounds_toArray, List.set_cons_zero, List.set_cons_succ, i64_w, i32_w]
    rfl
  refine one_ (i := 3) (N := some 8) #[true, true, true, true, true, true, true, false, false, false, false] rfl rfl (by kernel_rfl) (by decide) (fun K hK => ?_)
  refine goes_ Tryz.func49 (by kernel_rfl) rfl #[.slice Am v.length cm, .string name] (by rfl) rfl rfl (by simp only [List.map_toArray, List.map_cons, List.map_nil]; rfl) ?_
  with_reducible refine (HAV.out _ (below_step HB1.out (below_drew (Below.refl _ W1)))).mono ?_
  rintro e w3 ⟨v3, rfl, hr_, hb_⟩
  refine ⟨_, rfl, ?_⟩
  obtain ⟨A3, c3_, rfl⟩ := Kd.R_slice hr_
  have HR3 := Aside0.mk (Kd.R_reads' hr_).2.2
  have HB3 := Aside0.mk (below_step (below_step HB1.out (below_drew (Below.refl _ W1))) hb_)
  have HA3 := Aside0.mk (HA1.out.below ((below_drew (Below.refl W1.heap.size W1)).trans hb_) HA1.out.lt)
  clear hr_ hb_
  refine hK.out _ _ ⟨HA3.out.cell 5, HA3.out.cell 2⟩ (fun hHeld => ?_)
  clear hK K
  refine norm_ (a' := ?_) ?_ ?_
  rotate_left
  · show Act.put _ (some 8) _ = _
    simp only [Act.put, List.setIfInBounds_toArray, List.set_cons_zero, List.set_cons_succ, i64_w, i32_w]
    rfl
  refine one_ (i := 7) (N := some 12) #[true, true, true, true, true, true, true, true, false, false, false] rfl rfl (by kernel_rfl) (by decide) (fun K hK => ?_)
  refine goes_ Tryz.func49 (by kernel_rfl) rfl #[.slice Aq q.length cq, .string name] (by rfl) rfl rfl (by simp only [List.map_toArray, List.map_cons, List.map_nil]; rfl) ?_
  with_reducible refine (HAQ.out _ HB3.out).mono ?_
  rintro e w4 ⟨v4, rfl, hr_, hb_⟩
  refine ⟨_, rfl, ?_⟩
  obtain ⟨A4, c4_, rfl⟩ := Kd.R_slice hr_
  have HR4 := Aside0.mk (Kd.R_reads' hr_).2.2
  have HS4 := Aside0.mk (Kd.C_below HR3.out hb_)
  have HB4 := Aside0.mk (below_step HB3.out hb_)
  have HA4 := Aside0.mk (HA3.out.below hb_ HA3.out.lt)
  clear hr_ hb_
  refine hK.out _ _ ⟨HA4.out.cell 5, HA4.out.cell 2⟩ (fun hHeld => ?_)
  clear hK K
  refine norm_ (a' := ?_) ?_ ?_
  rotate_left
  · show Act.put _ (some 12) _ = _
    simp only [Act.put, List.setIfInBounds_toArray, List.set_cons_zero, List.set_cons_succ, i64_w, i32_w]
    rfl
  refine one_ (i := 8) (N := some 13) #[true, true, true, true, true, true, true, true, true, false, false] rfl rfl (by kernel_rfl) (by decide) (fun K hK => ?_)
  refine value_ (w1 := ?_) (v := ?_) (by rfl) rfl ?_ ?_
  rotate_left 2
  · go_simp
    constructor
    · rfl
    · rfl
  refine hK.out _ _ ⟨(HA4.out.alloc _).cell 5, (HA4.out.alloc _).cell 2⟩ (fun hHeld => ?_)
  clear hK K
  refine norm_ (a' := ?_) ?_ ?_
  rotate_left
  · show Act.put _ (some 13) _ = _
    simp only [Act.put, List.setIfInBounds_toArray, List.set_cons_zero, List.set_cons_succ, i64_w, i32_w]
    rfl
  refine one_ (i := 9) (N := some 14) #[true, true, true, true, true, true, true, true, true, true, false] rfl rfl (by kernel_rfl) (by decide) (fun K hK => ?_)
  refine goes_ Tryz.func48 (by kernel_rfl) rfl #[.slice (some ⟨w4.heap.size, 0, none⟩) 2 2] (by rfl) rfl rfl (by simp only [List.map_toArray, List.map_cons, List.map_nil]; rfl) ?_
  with_reducible refine (p_Concat.calls (Blk.At.new w4 _ _) (Kd.C_alloc HS4.out _) (Kd.C_alloc HR4.out _) HN.out).mono ?_
  rintro e w5 ⟨v5, rfl, hr_, hb_⟩
  refine ⟨_, rfl, ?_⟩
  have HB5 := Aside0.mk (below_step (below_alloc HB4.out (.cells #[.slice A3 lv.length c3_, .slice A4 lq.length c4_] 49)) hb_)
  have HR5 := Aside0.mk (Kd.R_lower hr_ (below_alloc HB4.out (.cells #[.slice A3 lv.length c3_, .slice A4 lq.length c4_] 49)).size)
  have HA5 := Aside0.mk ((HA4.out.alloc (.cells #[.slice A3 lv.length c3_, .slice A4 lq.length c4_] 49)).below hb_ (HA4.out.alloc (.cells #[.slice A3 lv.length c3_, .slice A4 lq.length c4_] 49)).lt)
  clear hr_ hb_
  refine hK.out _ _ ⟨HA5.out.cell 5, HA5.out.cell 2⟩ (fun hHeld => ?_)
  clear hK K
  refine norm_ (a' := ?_) ?_ ?_
  rotate_left
  · show Act.put _ (some 14) _ = _
    simp only [Act.put, List.setIfInBounds_toArray, List.set_cons_zero, List.set_cons_succ, i64_w, i32_w]
    rfl
  refine pure_ (i := 10) (N := some 4) (v := ?_) (a' := ?_) #[true, true, true, true, true, true, true, true, true, true, true] rfl rfl (by kernel_rfl) (fun _ _ _ h => h) (Or.inl ⟨by rfl, ?_⟩) ?_ ?_
  rotate_left
  · intro w'
    go_simp
    with_reducible rfl
  rotate_left
  · simp only [Act.put, List.setIfInBounds_toArray, List.set_cons_zero, List.set_cons_succ, i64_w, i32_w]
    rfl
  refine done_ (by kernel_rfl) ?_
  clear hHeld
  go_wp2_with fail
  go_ret
  exact ⟨_, rfl, HR5.out, HB5.out⟩
/-! ### far (11) -/
def cl5 (k : ByteArray) : Int := if 5000 < (k.size : Int) then 5000 else k.size
theorem cl5_at (k : ByteArray) : 0 ≤ cl5 k ∧ cl5 k ≤ 5000 := by
  unfold cl5
  split <;> omega
theorem add_two {a b : Nat} (ha : a ≤ 300000000000000) (hb : b ≤ 300000000000000) : wrap64 ((a : Int) + (b : Int)) = ((a + b : Nat) : Int) := by unfold wrap64; omega
/-- What a sum is, at most, behind n pairs. -/
def TB (t : Int) (n : Nat) : Prop := 0 ≤ t ∧ t ≤ 500000000000000 + (n : Int) * 10000
theorem TB.start {a b c s1 s2 : Nat} (h1 : s1 = a + b) (h2 : s2 = s1 + c) (ha : a ≤ 140737488351232) (hb : b ≤ 140737488351232) (hc : c ≤ 140737488351232) : TB (s2 : Int) 0 := by unfold TB; omega
theorem TB.cast {t : Int} {n m : Nat} (h : TB t n) (e : n = m) : TB t m := e ▸ h
theorem sum_one {a b s : Nat} (h : s = a + b) (ha : a ≤ 140737488351232) (hb : b ≤ 140737488351232) : wrap64 ((a : Int) + (b : Int)) = (s : Int) := by rw [h]; exact add_two (by omega) (by omega)
theorem sum_two {a b c s1 s2 : Nat} (h1 : s1 = a + b) (h2 : s2 = s1 + c) (ha : a ≤ 140737488351232) (hb : b ≤ 140737488351232) (hc : c ≤ 140737488351232) : wrap64 ((s1 : Int) + (c : Int)) = (s2 : Int) := by rw [h2]; exact add_two (by omega) (by omega)
theorem len_one {a b s : Nat} (h : s = a + b) (ha : a ≤ 4398046511104) (hb : b ≤ 4398046511104) : wrap64 ((a : Int) + (b : Int)) = (s : Int) := by rw [h]; exact add_two (by omega) (by omega)
theorem len_two {a b c s1 s2 : Nat} (h1 : s1 = a + b) (h2 : s2 = s1 + c) (ha : a ≤ 4398046511104) (hb : b ≤ 4398046511104) (hc : c ≤ 4398046511104) : wrap64 ((s1 : Int) + (c : Int)) = (s2 : Int) := by rw [h2]; exact add_two (by omega) (by omega)
theorem is_far {n : Nat} (h : n > 100) : (100 : Int) < (n : Int) ∧ decide ((n : Int) > 100) = true := ⟨by omega, decide_eq_true (by omega)⟩
theorem not_far {n : Nat} (h : ¬ n > 100) : ¬ (100 : Int) < (n : Int) ∧ decide ((n : Int) > 100) = false := ⟨by omega, decide_eq_false (by omega)⟩
theorem far_len {a b c n1 n2 : Nat} (h1 : n1 = a + b) (h2 : n2 = n1 + c) (h : ¬ n2 > 100) : a + b + c ≤ 100 := by omega
theorem far_keep {fs : List S38} {n : Nat} (h : n < fs.length) {t p q : Int} (hp : p = cl5 fs[n].f0) (hq : q = cl5 fs[n].f1) (h0 : 0 ≤ t) (hS : ∀ f ∈ fs.take n, cl5 f.f0 + cl5 f.f1 ≤ t) : ∀ f ∈ fs.take (n + 1), cl5 f.f0 + cl5 f.f1 ≤ t + (p + q) := by
  intro f hf
  rw [List.take_succ_eq_append_getElem h] at hf
  have h2 := cl5_at fs[n].f0
  have h3 := cl5_at fs[n].f1
  rcases List.mem_append.1 hf with hf | hf
  · have := hS f hf
    omega
  · rw [List.mem_singleton.1 hf]
    omega
theorem far_end {fs : List S38} {t : Int} (h : decide (t > 5000) = false) (hS : ∀ f ∈ fs, cl5 f.f0 + cl5 f.f1 ≤ t) : ∀ f ∈ fs, cl5 f.f0 + cl5 f.f1 ≤ 5000 := fun f hf => by
  have := hS f hf
  have := of_decide_eq_false h
  omega
theorem far_addT {t : Int} {n : Nat} {p q : Int} (hp : 0 ≤ p ∧ p ≤ 5000) (hq : 0 ≤ q ∧ q ≤ 5000) (h : TB t n) (hn : n ≤ 100) : wrap64 (p + q) = p + q ∧ wrap64 (t + (p + q)) = t + (p + q) ∧ TB (t + (p + q)) (n + 1) := by
  unfold TB at h ⊢
  refine ⟨?_, ?_, by omega, by omega⟩ <;> unfold wrap64 <;> omega
theorem meas {n l : Nat} (h : n < l) : l - (n + 1) < l - n := by omega
theorem len_a {a b c n : Nat} (h : a + b + c ≤ 100) (hn : n < a) : 0 + n ≤ 100 := by omega
theorem len_b {a b c n : Nat} (h : a + b + c ≤ 100) (hn : n < b) : a + n ≤ 100 := by omega
theorem len_c {a b c n : Nat} (h : a + b + c ≤ 100) (hn : n < c) : a + b + n ≤ 100 := by omega
theorem w_a {a b c n : Nat} (h : a + b + c ≤ 100) (hn : n < a ∨ n < b ∨ n < c) : wrap64 ((n : Int) + 1) = ((n + 1 : Nat) : Int) := by unfold wrap64; omega
theorem far_add {t : Int} {n : Nat} {p q : Int} (hp : 0 ≤ p ∧ p ≤ 5000) (hq : 0 ≤ q ∧ q ≤ 5000) (h : 0 ≤ t ∧ t ≤ 500000000000000 + (n : Int) * 10000) (hn : n ≤ 100) : wrap64 (p + q) = p + q ∧ wrap64 (t + (p + q)) = t + (p + q) ∧ 0 ≤ t + (p + q) ∧ t + (p + q) ≤ 500000000000000 + ((n + 1 : Nat) : Int) * 10000 := by
  refine ⟨?_, ?_, by omega, by omega⟩ <;> unfold wrap64 <;> omega
structure FarC (q v : List S84) (fs : List S38) : Prop where
  len : q.length + v.length + fs.length ≤ 100
  fs : ∀ f ∈ fs, cl5 f.f0 + cl5 f.f1 ≤ 5000
set_option maxHeartbeats 8000000 in
theorem p_far.calls {m p bd : ByteArray} {q v : List S84} {fs : List S38} {Aq Af Am : Option Addr} {cq cf cm : Nat} {w : World} (hQ : Kd.C k84 w Aq q.length q) (hF : Kd.C k38 w Af fs.length fs) (hV : Kd.C k84 w Am v.length v) (hm : m.size ≤ 140737488351232) (hp : p.size ≤ 140737488351232) (hb : bd.size ≤ 140737488351232) (lq : q.length ≤ 4398046511104) (lv : v.length ≤ 4398046511104) (lf : fs.length ≤ 4398046511104) :
    Calls Tryz.prog 11 #[.agg #[.string m, .string p, .slice Aq q.length cq, .slice Af fs.length cf, .string bd, .slice Am v.length cm]] w fun e w' => ∃ b, e = .returned (.bool b) ∧ Below w.heap.size w w' ∧ (b = false → FarC q v fs) := by
  obtain ⟨W1, hW1⟩ : ∃ W, W = w.alloc (.cells #[.string m, .string p, .slice Aq q.length cq, .slice Af fs.length cf, .string bd, .slice Am v.length cm] 34) := ⟨_, rfl⟩
  have HA1 := Aside0.mk (show Blk.At w.heap.size #[.string m, .string p, .slice Aq q.length cq, .slice Af fs.length cf, .string bd, .slice Am v.length cm] 34 W1 from hW1 ▸ Blk.At.new w _ _)
  have HB1 := Aside0.mk (show Below w.heap.size w W1 from hW1 ▸ below_alloc (Below.refl _ _) _)
  have x0 : W1.cell? ⟨w.heap.size, 0, none⟩ = some (.string m) := HA1.out.cell 0
  have x1 : W1.cell? ⟨w.heap.size, 1, none⟩ = some (.string p) := HA1.out.cell 1
  have x2 : W1.cell? ⟨w.heap.size, 2, none⟩ = some (.slice Aq q.length cq) := HA1.out.cell 2
  have x3 : W1.cell? ⟨w.heap.size, 3, none⟩ = some (.slice Af fs.length cf) := HA1.out.cell 3
  have x4 : W1.cell? ⟨w.heap.size, 4, none⟩ = some (.string bd) := HA1.out.cell 4
  have x5 : W1.cell? ⟨w.heap.size, 5, none⟩ = some (.slice Am v.length cm) := HA1.out.cell 5
  replace hW1 := hW1.symm
  obtain ⟨s1, hs1⟩ : ∃ s, s = m.size + p.size := ⟨_, rfl⟩
  obtain ⟨s2, hs2⟩ : ∃ s, s = s1 + bd.size := ⟨_, rfl⟩
  have e1 := sum_one hs1 hm hp
  have e2 := sum_two hs1 hs2 hm hp hb
  have HS2 := Aside0.mk (TB.start hs1 hs2 hm hp hb)
  obtain ⟨n1, hn1⟩ : ∃ n, n = q.length + v.length := ⟨_, rfl⟩
  obtain ⟨n2, hn2⟩ : ∃ n, n = n1 + fs.length := ⟨_, rfl⟩
  have e3 := len_one hn1 lq lv
  have e4 := len_two hn1 hn2 lq lv lf
  by_cases hfar : n2 > 100
  · obtain ⟨hf2, hf'⟩ := is_far hfar
    clear hQ hF hV hm hp hb lq lv lf hs1 hs2 hn1 hn2 hfar
    go_enter Tryz.func11, Tryz.ntmps11
    go_wp2_with fail
    go_ret
    exact ⟨true, rfl, HB1.out, fun h => by cases h⟩
  · obtain ⟨hf2, hf'⟩ := not_far hfar
    have HLEN := Aside0.mk (far_len hn1 hn2 hfar)
    have HQ := Aside0.mk hQ
    have HF := Aside0.mk hF
    have HV := Aside0.mk hV
    have HB2 := Aside0.mk (below_alloc HB1.out (.cells #[.slice Aq q.length cq, .slice Am v.length cm] 31))
    have HA2 := Aside0.mk (HA1.out.alloc (.cells #[.slice Aq q.length cq, .slice Am v.length cm] 31))
    have HC2 := Aside0.mk (Blk.At.new W1 #[.slice Aq q.length cq, .slice Am v.length cm] 31)
    clear hQ hF hV hm hp hb lq lv lf hs1 hs2 hn1 hn2 hfar
    go_enter Tryz.func11, Tryz.ntmps11
    go_wp2_with fail
    clear x0 x1 x2 x3 x4 x5 HB1 HA1
    go_loopw [39, 3] (fun j s wr => ∃ t : Int, s = .int .i64 t ∧ (j = .int .i64 0 ∧ Aside0 (TB t 0) ∨ j = .int .i64 1 ∧ Aside0 (TB t q.length) ∨ j = .int .i64 2 ∧ Aside0 (TB t (q.length + v.length))) ∧ Aside0 (Below w.heap.size w wr) ∧ Aside0 (Blk.At w.heap.size #[.string m, .string p, .slice Aq q.length cq, .slice Af fs.length cf, .string bd, .slice Am v.length cm] 34 wr) ∧ Aside0 (Blk.At W1.heap.size #[.slice Aq q.length cq, .slice Am v.length cm] 31 wr)) (fun j _ _ => 2 - (intOf j).toNat)
    case atStart => exact ⟨(s2 : Int), rfl, .inl ⟨rfl, HS2⟩, HB2, HA2, HC2⟩
    case round =>
      clear HB2 HA2 HC2
      obtain ⟨t0, rfl, hj, HB, HA, HC⟩ := hrel
      have y0 : wr.cell? ⟨W1.heap.size, 0, none⟩ = some (.slice Aq q.length cq) := HC.out.cell 0
      have y1 : wr.cell? ⟨W1.heap.size, 1, none⟩ = some (.slice Am v.length cm) := HC.out.cell 1
      rcases hj with ⟨rfl, HT⟩ | ⟨rfl, HT⟩ | ⟨rfl, HT⟩
      · go_wp2_with fail
        clear y0 y1
        go_loopw [45, 3] (fun jj s wz => ∃ (n : Nat) (t : Int), n ≤ q.length ∧ jj = .int .i64 n ∧ s = .int .i64 t ∧ Aside0 (TB t (0 + n)) ∧ Aside0 (Below w.heap.size w wz) ∧ Aside0 (Blk.At w.heap.size #[.string m, .string p, .slice Aq q.length cq, .slice Af fs.length cf, .string bd, .slice Am v.length cm] 34 wz) ∧ Aside0 (Blk.At W1.heap.size #[.slice Aq q.length cq, .slice Am v.length cm] 31 wz)) (fun jj _ _ => q.length - (intOf jj).toNat)
        case atStart => exact ⟨0, t0, Nat.zero_le _, rfl, rfl, ⟨HT.out.cast (by omega)⟩, HB, HA, HC⟩
        case round =>
          clear HT HB HA HC
          obtain ⟨n, t, hn, rfl, rfl, HT, HB, HA, HC⟩ := hrel
          by_cases hlt : n < q.length
          · obtain ⟨ad, rfl, hc0, hc1⟩ := at_T84 (Kd.C_below HQ.out HB.out) (n : Int) (Int.natCast_nonneg _) (by omega)
            rw [Int.toNat_natCast] at hc0 hc1
            rw [show rd_T84 q (n : Int) = q[n] from by simp [rd_T84, hlt]] at hc0 hc1
            generalize q[n] = f at hc0 hc1
            have en := w_a HLEN.out (.inl hlt)
            obtain ⟨ez1, ez2, h3_⟩ := far_addT (n := 0 + n) (cl5_at f.f0) (cl5_at f.f1) HT.out (len_a HLEN.out hlt)
            have hcl1 : (if 5000 < (f.f0.size : Int) then 5000 else (f.f0.size : Int)) = cl5 f.f0 := rfl
            have hcl2 : (if 5000 < (f.f1.size : Int) then 5000 else (f.f1.size : Int)) = cl5 f.f1 := rfl
            obtain ⟨pp, hpp⟩ : ∃ z, z = cl5 f.f0 := ⟨_, rfl⟩
            obtain ⟨qq, hqq⟩ : ∃ z, z = cl5 f.f1 := ⟨_, rfl⟩
            rw [← hpp] at hcl1 ez1 ez2 h3_
            rw [← hqq] at hcl2 ez1 ez2 h3_
            have HPQ := Aside0.mk (And.intro hpp hqq)
            have HT1 := Aside0.mk h3_
            clear hpp hqq
            have HBa := Aside0.mk (below_alloc HB.out (.cells #[.string f.f0, .string f.f1] 84))
            have HAa := Aside0.mk (HA.out.alloc (.cells #[.string f.f0, .string f.f1] 84))
            have HCa := Aside0.mk (HC.out.alloc (.cells #[.string f.f0, .string f.f1] 84))
            have hat := Blk.At.new wr #[.string f.f0, .string f.f1] 84
            have k0 : (wr.alloc (.cells #[.string f.f0, .string f.f1] 84)).cell? ⟨wr.heap.size, 0, none⟩ = some (.string f.f0) := hat.cell 0
            have k1 : (wr.alloc (.cells #[.string f.f0, .string f.f1] 84)).cell? ⟨wr.heap.size, 1, none⟩ = some (.string f.f1) := hat.cell 1
            have HLT := Aside0.mk hlt
            clear hat h3_
            go_wp2_with fail
            rw [en]
            go_roundw
            case rel => exact ⟨n + 1, t + (pp + qq), HLT.out, rfl, by rw [ez2], HT1, HBa, HAa, HCa⟩
            case measure => simp only [intOf, Int.toNat_natCast]; exact meas HLT.out
          · obtain rfl : n = q.length := by omega
            go_wp2_with fail
            go_roundw
            case rel => exact ⟨t, rfl, .inr (.inl ⟨rfl, ⟨HT.out.cast (Nat.zero_add _)⟩⟩), HB, HA, HC⟩
            case measure => decide
      · go_wp2_with fail
        clear y0 y1
        go_loopw [45, 3] (fun jj s wz => ∃ (n : Nat) (t : Int), n ≤ v.length ∧ jj = .int .i64 n ∧ s = .int .i64 t ∧ Aside0 (TB t (q.length + n)) ∧ Aside0 (Below w.heap.size w wz) ∧ Aside0 (Blk.At w.heap.size #[.string m, .string p, .slice Aq q.length cq, .slice Af fs.length cf, .string bd, .slice Am v.length cm] 34 wz) ∧ Aside0 (Blk.At W1.heap.size #[.slice Aq q.length cq, .slice Am v.length cm] 31 wz)) (fun jj _ _ => v.length - (intOf jj).toNat)
        case atStart => exact ⟨0, t0, Nat.zero_le _, rfl, rfl, ⟨HT.out.cast (by omega)⟩, HB, HA, HC⟩
        case round =>
          clear HT HB HA HC
          obtain ⟨n, t, hn, rfl, rfl, HT, HB, HA, HC⟩ := hrel
          by_cases hlt : n < v.length
          · obtain ⟨ad, rfl, hc0, hc1⟩ := at_T84 (Kd.C_below HV.out HB.out) (n : Int) (Int.natCast_nonneg _) (by omega)
            rw [Int.toNat_natCast] at hc0 hc1
            rw [show rd_T84 v (n : Int) = v[n] from by simp [rd_T84, hlt]] at hc0 hc1
            generalize v[n] = f at hc0 hc1
            have en := w_a HLEN.out (.inr <| .inl hlt)
            obtain ⟨ez1, ez2, h3_⟩ := far_addT (n := q.length + n) (cl5_at f.f0) (cl5_at f.f1) HT.out (len_b HLEN.out hlt)
            have hcl1 : (if 5000 < (f.f0.size : Int) then 5000 else (f.f0.size : Int)) = cl5 f.f0 := rfl
            have hcl2 : (if 5000 < (f.f1.size : Int) then 5000 else (f.f1.size : Int)) = cl5 f.f1 := rfl
            obtain ⟨pp, hpp⟩ : ∃ z, z = cl5 f.f0 := ⟨_, rfl⟩
            obtain ⟨qq, hqq⟩ : ∃ z, z = cl5 f.f1 := ⟨_, rfl⟩
            rw [← hpp] at hcl1 ez1 ez2 h3_
            rw [← hqq] at hcl2 ez1 ez2 h3_
            have HPQ := Aside0.mk (And.intro hpp hqq)
            have HT1 := Aside0.mk h3_
            clear hpp hqq
            have HBa := Aside0.mk (below_alloc HB.out (.cells #[.string f.f0, .string f.f1] 84))
            have HAa := Aside0.mk (HA.out.alloc (.cells #[.string f.f0, .string f.f1] 84))
            have HCa := Aside0.mk (HC.out.alloc (.cells #[.string f.f0, .string f.f1] 84))
            have hat := Blk.At.new wr #[.string f.f0, .string f.f1] 84
            have k0 : (wr.alloc (.cells #[.string f.f0, .string f.f1] 84)).cell? ⟨wr.heap.size, 0, none⟩ = some (.string f.f0) := hat.cell 0
            have k1 : (wr.alloc (.cells #[.string f.f0, .string f.f1] 84)).cell? ⟨wr.heap.size, 1, none⟩ = some (.string f.f1) := hat.cell 1
            have HLT := Aside0.mk hlt
            clear hat h3_
            go_wp2_with fail
            rw [en]
            go_roundw
            case rel => exact ⟨n + 1, t + (pp + qq), HLT.out, rfl, by rw [ez2], HT1, HBa, HAa, HCa⟩
            case measure => simp only [intOf, Int.toNat_natCast]; exact meas HLT.out
          · obtain rfl : n = v.length := by omega
            go_wp2_with fail
            go_roundw
            case rel => exact ⟨t, rfl, .inr (.inr ⟨rfl, HT⟩), HB, HA, HC⟩
            case measure => decide
      · have x3 : wr.cell? ⟨w.heap.size, 3, none⟩ = some (.slice Af fs.length cf) := HA.out.cell 3
        go_wp2_with fail
        clear x3 y0 y1
        go_loopw [65, 3] (fun jj s wz => ∃ (n : Nat) (t : Int), n ≤ fs.length ∧ jj = .int .i64 n ∧ s = .int .i64 t ∧ Aside0 (TB t (q.length + v.length + n)) ∧ Aside0 (∀ f ∈ fs.take n, cl5 f.f0 + cl5 f.f1 ≤ t) ∧ Aside0 (Below w.heap.size w wz)) (fun jj _ _ => fs.length - (intOf jj).toNat)
        case atStart => exact ⟨0, t0, Nat.zero_le _, rfl, rfl, HT, ⟨fun f hf => by simp at hf⟩, HB⟩
        case round =>
          clear HT HB HA HC
          obtain ⟨n, t, hn, rfl, rfl, HT, HS, HB⟩ := hrel
          by_cases hlt : n < fs.length
          · obtain ⟨ad, rfl, hc0, hc1⟩ := at_T38 (Kd.C_below HF.out HB.out) (n : Int) (Int.natCast_nonneg _) (by omega)
            have HTK := Aside0.mk (fun pp qq hpp hqq => far_keep hlt (p := pp) (q := qq) hpp hqq HT.out.1 HS.out)
            rw [Int.toNat_natCast] at hc0 hc1
            rw [show rd_T38 fs (n : Int) = fs[n] from by simp [rd_T38, hlt]] at hc0 hc1
            obtain ⟨f, hf⟩ : ∃ f, f = fs[n] := ⟨_, rfl⟩
            rw [← hf] at HTK hc0 hc1
            clear hf
            have en := w_a HLEN.out (.inr (.inr hlt))
            obtain ⟨ez1, ez2, h3_⟩ := far_addT (n := q.length + v.length + n) (cl5_at f.f0) (cl5_at f.f1) HT.out (len_c HLEN.out hlt)
            have hcl1 : (if 5000 < (f.f0.size : Int) then 5000 else (f.f0.size : Int)) = cl5 f.f0 := rfl
            have hcl2 : (if 5000 < (f.f1.size : Int) then 5000 else (f.f1.size : Int)) = cl5 f.f1 := rfl
            obtain ⟨pp, hpp⟩ : ∃ z, z = cl5 f.f0 := ⟨_, rfl⟩
            obtain ⟨qq, hqq⟩ : ∃ z, z = cl5 f.f1 := ⟨_, rfl⟩
            rw [← hpp] at hcl1 ez1 ez2 h3_
            rw [← hqq] at hcl2 ez1 ez2 h3_
            have HPQ := Aside0.mk (And.intro hpp hqq)
            have HT1 := Aside0.mk h3_
            clear hpp hqq
            have HK := Aside0.mk (HTK.out pp qq HPQ.out.1 HPQ.out.2)
            clear HTK
            have HBa := Aside0.mk (below_alloc HB.out (.cells #[.string f.f0, .string f.f1] 38))
            have hat := Blk.At.new wr #[.string f.f0, .string f.f1] 38
            have k0 : (wr.alloc (.cells #[.string f.f0, .string f.f1] 38)).cell? ⟨wr.heap.size, 0, none⟩ = some (.string f.f0) := hat.cell 0
            have k1 : (wr.alloc (.cells #[.string f.f0, .string f.f1] 38)).cell? ⟨wr.heap.size, 1, none⟩ = some (.string f.f1) := hat.cell 1
            have HLT := Aside0.mk hlt
            clear hat h3_
            go_wp2_with fail
            rw [en]
            go_roundw
            case rel =>
              exact ⟨n + 1, t + (pp + qq), HLT.out, rfl, by rw [ez2], HT1, HK, HBa⟩
            case measure => simp only [intOf, Int.toNat_natCast]; exact meas HLT.out
          · obtain rfl : n = fs.length := by omega
            go_wp2_with fail
            go_ret
            rw [List.take_length] at HS
            exact ⟨_, rfl, HB.out, fun h => ⟨HLEN.out, far_end h HS.out⟩⟩
/-! ### What is got: plain -/
def u67 (x : S38) : S67 := ⟨x.f0, x.f1⟩
theorem at38' {l : List S38} {i : Nat} (h : i < l.length) : rd_T38 l (i : Int) = l[i] := by
  unfold rd_T38
  rw [Int.toNat_natCast, List.getD_eq_getElem?_getD, List.getElem?_eq_getElem h]
  rfl
theorem fields_loop (l : List S38) (hl : l.length ≤ 100000001) (d : Nat) : ∀ (i : Nat) (pre : List S67), i + d = l.length → pre.length ≤ i → Ev (fun k => cringlelaw29_fields.l0 k pre l (l.length : Int) (i : Int)) (pre ++ (l.drop i).map u67) := by
  induction d with
  | zero =>
    intro i pre hi hp
    refine Ev.step (f := fun _ => some pre) (fun k => ?_) ?_
    · simp only [cringlelaw29_fields.l0]
      rw [if_neg (by omega)]
    · rw [List.drop_of_length_le (by omega), List.map_nil, List.append_nil]
      exact Ev.now _
  | succ d ih =>
    intro i pre hi hp
    have hlt : i < l.length := by omega
    have := ih (i + 1) (pre ++ [u67 l[i]]) (by omega) (by simp; omega)
    rw [Plain.drop_at hlt, List.map_cons, show pre ++ u67 l[i] :: (l.drop (i + 1)).map u67 = pre ++ [u67 l[i]] ++ (l.drop (i + 1)).map u67 from by simp]
    refine Ev.step (fun k => ?_) this
    simp only [cringlelaw29_fields.l0]
    rw [if_pos (by omega), if_pos (by omega), if_pos (by omega), if_pos (by omega), at38' (by omega), Plain.next (by omega)]
    rfl
theorem fields_ev (l : List S38) (hl : l.length ≤ 100000001) : Ev (fun k => cringlelaw29_fields.f k l) (l.map u67) := by
  have := fields_loop l hl l.length 0 [] (by omega) (by simp)
  rw [List.drop_zero, List.nil_append] at this
  exact this
theorem pairs_any (l : List S84) (hl : l.length ≤ 100000001) : Ev (fun k => cringlelaw29_pairs.f k l) (l.map Plain.m105) := by
  have := Plain.theirs_ev l hl
  rw [List.map_map] at this
  exact this
theorem theirs_all (m p : ByteArray) (q : List S84) (fs : List S38) (b : ByteArray) (v : List S84) (h1 : q.length ≤ 100000001) (h2 : fs.length ≤ 100000001) (h3 : v.length ≤ 100000001) : Ev (fun k => cringlelaw29_theirs.f k m p q fs b v) (m, p, q.map Plain.m105, fs.map u67, b, v.map Plain.m105) := by
  unfold cringlelaw29_theirs.f
  exact Ev.bind (pairs_any q h1) (Ev.bind (fields_ev fs h2) (Ev.bind (pairs_any v h3) (Ev.now _)))
theorem lower_eq (s : ByteArray) (hs : s.size ≤ 1000000000) : Plain.lower s = lowB s := by
  have h1 := Plain.asc_lower s (by omega)
  have h2 : ascii_Lower.f s = some (lowB s) := by
    unfold ascii_Lower.f
    rw [if_pos (by omega)]
    rfl
  rw [h2] at h1
  exact (Option.some.inj h1).symm
def getD_ (fs : List S38) (name : ByteArray) : ByteArray × Bool :=
  match fs.find? (fun f => f.f0.toList == (lowB name).toList) with
  | some f => (f.f1, true)
  | none => (⟨#[]⟩, false)
theorem getF_u (fs : List S38) (name : ByteArray) : getF (fs.map u67) name = getD_ fs name := by
  unfold getF getD_
  rw [List.find?_map]
  have e : (isF (lowB name) ∘ u67) = fun f : S38 => f.f0.toList == (lowB name).toList := rfl
  rw [e]
  cases fs.find? (fun f : S38 => f.f0.toList == (lowB name).toList) <;> rfl
theorem refget_loop (name : ByteArray) (hn : name.size ≤ 100000) (m p : ByteArray) (q : List S84) (fs : List S38) (hl : fs.length ≤ 100000001) (b : ByteArray) (v : List S84) (d : Nat) : ∀ i : Nat, i + d = fs.length → Ev (fun k => cringleref29_Get.l0 k name (i : Int) m p q fs b v) (getD_ (fs.drop i) name) := by
  induction d with
  | zero =>
    intro i hi
    refine Ev.step (f := fun _ => some ((⟨#[]⟩ : ByteArray), false)) (fun k => ?_) ?_
    · simp only [cringleref29_Get.l0]
      rw [if_neg (by omega)]
    · rw [List.drop_of_length_le (by omega)]
      exact Ev.now _
  | succ d ih =>
    intro i hi
    have hlt : i < fs.length := by omega
    have ih := ih (i + 1) (by omega)
    refine Ev.step (fun k => by simp only [cringleref29_Get.l0]; rw [if_pos (by omega), if_pos (by omega), at38' hlt, Plain.next (by omega)]) ?_
    refine Ev.bind (Plain.ref_lower name hn) ?_
    rw [lower_eq name (by omega), Plain.drop_at hlt]
    by_cases h : (fs[i]).f0.toList = (lowB name).toList
    · refine Ev.congr (fun k => if_pos h) ?_
      unfold getD_
      rw [List.find?_cons_of_pos (by rw [h]; simp)]
      exact Ev.now _
    · refine Ev.congr (fun k => if_neg h) ?_
      unfold getD_ at ih ⊢
      rw [List.find?_cons_of_neg (by rw [beq_iff_eq]; exact h)]
      exact ih
theorem refget_ev (name : ByteArray) (hn : name.size ≤ 100000) (m p : ByteArray) (q : List S84) (fs : List S38) (hl : fs.length ≤ 100000001) (b : ByteArray) (v : List S84) : Ev (fun k => cringleref29_Get.f k m p q fs b v name) (getF (fs.map u67) name) := by
  have := refget_loop name hn m p q fs hl b v fs.length 0 (by omega)
  rw [List.drop_zero] at this
  rw [getF_u]
  exact this
def paramR (q v : List S84) (name : ByteArray) : ByteArray × Bool := if (Plain.getIn name.data.toList v).2 = true then ((Plain.getIn name.data.toList v).1, true) else Plain.getIn name.data.toList q
theorem param_ev (m p : ByteArray) (q : List S84) (fs : List S67) (b : ByteArray) (v : List S84) (name : ByteArray) (h1 : q.length ≤ 100000001) (h3 : v.length ≤ 100000001) : Ev (fun k => http_Param.f k m p (q.map Plain.m105) fs b (v.map Plain.m105) name) (paramR q v name) := by
  unfold http_Param.f paramR
  refine Ev.bind (Plain.get_ev v h3 name) ?_
  split
  · rename_i h
    exact Ev.now _
  · rename_i h
    exact Ev.bind (Plain.get_ev q h1 name) (Ev.now _)
theorem refparam_ev (m p : ByteArray) (q : List S84) (fs : List S38) (b : ByteArray) (v : List S84) (name : ByteArray) (h1 : q.length ≤ 100000001) (h3 : v.length ≤ 100000001) : Ev (fun k => cringleref29_Param.f k m p q fs b v name) (paramR q v name) := by
  unfold cringleref29_Param.f paramR
  refine Ev.bind (Plain.rget_ev v h3 name) ?_
  split
  · rename_i h
    exact Ev.now _
  · rename_i h
    exact Ev.bind (Plain.rget_ev q h1 name) (Ev.now _)
theorem refparams_ev (m p : ByteArray) (q : List S84) (fs : List S38) (b : ByteArray) (v : List S84) (name : ByteArray) (h1 : q.length ≤ 1000000) (h3 : v.length ≤ 1000000) (hn : name.size ≤ 100000) : Ev (fun k => cringleref29_Params.f k m p q fs b v name) (Plain.allIn name.data.toList v ++ Plain.allIn name.data.toList q) := by
  have l1 := Plain.allIn_len (Plain.D name) v
  have l2 := Plain.allIn_len (Plain.D name) q
  unfold cringleref29_Params.f
  refine Ev.bind (Plain.rall_ev v (by omega) name hn) ?_
  refine Ev.congr (fun k => if_pos (by rw [List.length_nil]; omega)) ?_
  refine Ev.bind (Ev.now _) ?_
  rw [List.nil_append]
  refine Ev.bind (Plain.rall_ev q (by omega) name hn) ?_
  exact Ev.congr (fun k => if_pos (by omega)) (Ev.now _)
/-! Bearer -/
theorem head_dropI (p : Int → Bool) : ∀ l : List Int, ∀ x, (l.dropWhile p).head? = some x → p x = false
  | [], x, h => by simp at h
  | a :: l, x, h => by
    rw [List.dropWhile_cons] at h
    split at h
    · exact head_dropI p l x h
    · simp at h
      subst h
      rename_i h0
      simpa using h0
theorem trim_ends (l : List Int) : (∀ x, (Plain.trim l).head? = some x → Plain.isB x = false) ∧ ∀ x, (Plain.trim l).getLast? = some x → Plain.isB x = false := by
  unfold Plain.trim Plain.trimL
  refine ⟨fun x h => head_dropI _ _ x h, fun x h => ?_⟩
  obtain ⟨t, ht⟩ := List.dropWhile_suffix (l := Plain.trimR l) Plain.isB
  have : (Plain.trimR l).getLast? = some x := by rw [← ht, List.getLast?_append, h]; rfl
  unfold Plain.trimR at this
  rw [List.getLast?_reverse] at this
  exact head_dropI _ _ x this
theorem trim_le (l : List Int) : ∀ x ∈ Plain.trim l, x ∈ l := by
  intro x hx
  unfold Plain.trim Plain.trimL at hx
  have h1 := (List.dropWhile_suffix (l := Plain.trimR l) Plain.isB).subset hx
  unfold Plain.trimR at h1
  rw [List.mem_reverse] at h1
  have h2 := (List.dropWhile_suffix (l := l.reverse) Plain.isB).subset h1
  rwa [List.mem_reverse] at h2
theorem trim_len (l : List Int) : (Plain.trim l).length ≤ l.length := by
  unfold Plain.trim Plain.trimL
  refine Nat.le_trans (List.dropWhile_suffix _).length_le ?_
  unfold Plain.trimR
  rw [List.length_reverse]
  refine Nat.le_trans (List.dropWhile_suffix _).length_le ?_
  rw [List.length_reverse]
  exact Nat.le_refl _
def wordsB (s : ByteArray) : List ByteArray := Plain.strs (Plain.wd [] (bytesOf (s.extract 7 s.size)))
theorem bear_low : lowB bearT = bearT := by decide +kernel
theorem bear_list : bearT.toList = [98, 101, 97, 114, 101, 114, 32] := by decide +kernel
theorem same7 {s : ByteArray} (h : s.size > 7) : sameB (s.extract 0 7) bearT = ((lowB (s.extract 0 7)).toList == [98, 101, 97, 114, 101, 114, 32]) := by
  unfold sameB
  rw [bear_low, bear_list]
  have : (s.extract 0 7).size = bearT.size := by
    rw [ByteArray.size_extract]
    show min 7 s.size - 0 = 7
    omega
  rw [decide_eq_true this, Bool.true_and]
theorem bne_emp (t : ByteArray) : (t.toList != ([] : List UInt8)) = !t.toList.isEmpty := by cases t.toList <;> rfl
theorem refbearer_ev (m p : ByteArray) (q : List S84) (fs : List S38) (b : ByteArray) (v : List S84) (h2 : fs.length ≤ 100000001) (h3 : v.length ≤ 100000001) (hs : (getF (fs.map u67) authT).1.size ≤ 5000) :
    Ev (fun k => cringleref29_Bearer.f k m p q fs b v) (bearerR (getF (fs.map u67) authT).1 (wordsB (getF (fs.map u67) authT).1) (Plain.getIn tokT.data.toList v).1) := by
  have hg := refget_ev authT (by decide) m p q fs h2 b v
  obtain ⟨t, ht⟩ : ∃ t, t = (Plain.getIn tokT.data.toList v).1 := ⟨_, rfl⟩
  have hend : Ev (fun k => (cringleref03_Get.f k v (⟨#[97, 99, 99, 101, 115, 115, 95, 116, 111, 107, 101, 110]⟩ : ByteArray)).bind fun bt => (some (bt.1, (bt.1.toList != ([] : List UInt8))))) (t, !t.toList.isEmpty) := by
    rw [ht, ← bne_emp]
    exact Ev.bind (Plain.rget_ev v h3 tokT) (Ev.now _)
  rw [← ht]
  unfold cringleref29_Bearer.f
  refine Ev.bind hg ?_
  obtain ⟨s, hse⟩ : ∃ s, s = (getF (fs.map u67) authT).1 := ⟨_, rfl⟩
  rw [← hse] at hs ⊢
  by_cases h7 : s.size > 7
  · refine Ev.congr (fun k => if_pos (by omega)) (Ev.congr (fun k => if_pos (by omega)) (Ev.congr (fun k => if_pos (by omega)) ?_))
    refine Ev.bind (Plain.ref_lower (s.extract 0 7) (by rw [ByteArray.size_extract]; omega)) ?_
    rw [lower_eq _ (by rw [ByteArray.size_extract]; omega), ← same7 h7]
    have hxz : (s.extract 7 s.size).size ≤ 5000 := by rw [ByteArray.size_extract]; omega
    cases hq : sameB (s.extract 0 7) bearT with
    | true =>
      refine Ev.step (fun k => by simp only [cringleref29_Bearer.j0]; rw [if_pos trivial, if_pos (by omega)]) ?_
      refine Ev.bind (Plain.ref_trim _ (by omega)) ?_
      have hbt : bytesOf (strOfNums (Plain.trim (bytesOf (s.extract 7 s.size)))) = Plain.trim (bytesOf (s.extract 7 s.size)) := Plain.bytes_str fun x hx => Plain.bytes_range (trim_le _ x hx)
      refine Ev.bind (Plain.ref_words _ (by rw [Plain.str_size]; have := trim_len (bytesOf (s.extract 7 s.size)); rw [Plain.bytes_len] at this; omega)) ?_
      rw [hbt, wd_trim]
      show Ev (fun k => if ((wordsB s).length : Int) = 1 then _ else _) _
      by_cases h1 : (wordsB s).length = 1
      · refine Ev.congr (fun k => if_pos (by omega)) ?_
        obtain ⟨w, hw⟩ : ∃ w, Plain.wd [] (bytesOf (s.extract 7 s.size)) = [w] := by
          unfold wordsB Plain.strs at h1
          rw [List.length_map] at h1
          exact List.length_eq_one_iff.1 h1
        have hwb : wordsB s = [strOfNums w] := by unfold wordsB; rw [hw]; rfl
        have hsing := wd_single (trim_ends (bytesOf (s.extract 7 s.size))).1 (trim_ends (bytesOf (s.extract 7 s.size))).2 (by rw [wd_trim]; exact hw)
        rw [hwb, bearerR_yes h7 hq, hsing]
        exact Ev.now _
      · refine Ev.congr (fun k => if_neg (by omega)) ?_
        rw [bearerR_no (fun k => h1 k.2.2)]
        exact hend
    | false =>
      refine Ev.step (fun k => by simp only [cringleref29_Bearer.j0]; rw [if_neg (by simp)]) ?_
      rw [bearerR_no (fun k => by rw [hq] at k; cases k.2.1)]
      exact hend
  · refine Ev.congr (fun k => if_neg (by omega)) ?_
    refine Ev.step (fun k => by simp only [cringleref29_Bearer.j0]; rw [if_neg (by simp)]) ?_
    rw [bearerR_no (fun k => h7 k.1)]
    exact hend
theorem auth_small {q v : List S84} {fs : List S38} (h : FarC q v fs) : (getF (fs.map u67) authT).1.size ≤ 5000 := by
  rw [getF_u]
  unfold getD_
  cases hf : fs.find? (fun f => f.f0.toList == (lowB authT).toList) with
  | none => exact Nat.zero_le _
  | some f =>
    have h1 := h.fs f (List.mem_of_find?_eq_some hf)
    have h2 := List.find?_some hf
    have h3 : f.f0 = authT := ba_ext (by
      have e : lowB authT = authT := by decide +kernel
      rw [e] at h2
      rw [← Lib.toList_data, ← Lib.toList_data]
      exact eq_of_beq h2)
    show f.f1.size ≤ 5000
    rw [h3] at h1
    have h4 : cl5 authT = 13 := by decide
    rw [h4] at h1
    unfold cl5 at h1
    split at h1 <;> omega
/-! ### The law of what is got (4) -/
structure LieR (q : List S84) (f : List S38) (v : List S84) (Aq : Option Addr) (cq : Nat) (Af : Option Addr) (cf : Nat) (Am : Option Addr) (cm : Nat) (w : World) : Prop where
  lq : Kd.C k84 w Aq q.length q
  lqc : q.length ≤ cq
  lf : Kd.C k38 w Af f.length f
  lfc : f.length ≤ cf
  lv : Kd.C k84 w Am v.length v
  lvc : v.length ≤ cm
theorem LieR.below {q : List S84} {f : List S38} {v : List S84} {Aq Af Am : Option Addr} {cq cf cm : Nat} {w w' : World} (h : LieR q f v Aq cq Af cf Am cm w) (hb : Below w.heap.size w w') : LieR q f v Aq cq Af cf Am cm w' := ⟨Kd.C_below h.lq hb, h.lqc, Kd.C_below h.lf hb, h.lfc, Kd.C_below h.lv hb, h.lvc⟩
structure LieX (q : List S105) (f : List S67) (v : List S105) (Aq : Option Addr) (cq : Nat) (Af : Option Addr) (cf : Nat) (Am : Option Addr) (cm : Nat) (w : World) : Prop where
  lq : Kd.C k105 w Aq q.length q
  lqc : q.length ≤ cq
  lf : Kd.C k67 w Af f.length f
  lfc : f.length ≤ cf
  lv : Kd.C k105 w Am v.length v
  lvc : v.length ≤ cm
theorem LieX.below {q : List S105} {f : List S67} {v : List S105} {Aq Af Am : Option Addr} {cq cf cm : Nat} {w w' : World} (h : LieX q f v Aq cq Af cf Am cm w) (hb : Below w.heap.size w w') : LieX q f v Aq cq Af cf Am cm w' := ⟨Kd.C_below h.lq hb, h.lqc, Kd.C_below h.lf hb, h.lfc, Kd.C_below h.lv hb, h.lvc⟩
/-! The argument, as it comes in. -/
def dR : Kd (ByteArray × ByteArray × List S84 × List S38 × ByteArray × List S84) := Kd.pair Kd.string (Kd.pair Kd.string (Kd.pair (Kd.slice 84 k84) (Kd.pair (Kd.slice 38 k38) (Kd.pair Kd.string (Kd.slice 84 k84)))))
theorem dR_open {w : World} {x : ByteArray × ByteArray × List S84 × List S38 × ByteArray × List S84} {cs : List Value} (h : dR.K w x cs) : ∃ Aq cq Af cf Am cm, cs = [.string x.1, .string x.2.1, .slice Aq x.2.2.1.length cq, .slice Af x.2.2.2.1.length cf, .string x.2.2.2.2.1, .slice Am x.2.2.2.2.2.length cm] ∧ LieR x.2.2.1 x.2.2.2.1 x.2.2.2.2.2 Aq cq Af cf Am cm w := by
  obtain ⟨x0, y0, rfl, h0, x1, y1, rfl, h1, x2, y2, rfl, h2, x3, y3, rfl, h3, x4, y4, rfl, h4, h5⟩ := h
  have e0 : x0 = [.string x.1] := h0
  have e1 : x1 = [.string x.2.1] := h1
  have e4 : x4 = [.string x.2.2.2.2.1] := h4
  obtain ⟨Aq, cq, e2, q1, q2⟩ := h2
  obtain ⟨Af, cf, e3, f1, f2⟩ := h3
  obtain ⟨Am, cm, e5, m1, m2⟩ := h5
  subst e0 e1 e2 e3 e4 e5
  exact ⟨Aq, cq, Af, cf, Am, cm, rfl, ⟨q2, q1, f2, f1, m2, m1⟩⟩
/-- All that the program and the document answer. -/
structure GetA (m p : ByteArray) (q : List S84) (fs : List S38) (bd : ByteArray) (v : List S84) (name : ByteArray) (q' : List S105) (f' : List S67) (v' : List S105) (g d s : ByteArray × Bool) (wl : List ByteArray) (tk : ByteArray × Bool) (lv lq : List ByteArray) (kt kg kp kr kw kk kb ka kc kd ke : Nat) : Prop where
  theirs : cringlelaw29_theirs.f kt m p q fs bd v = some (m, p, q', f', bd, v')
  get : getF f' name = g
  rget : cringleref29_Get.f kg m p q fs bd v name = some g
  param : http_Param.f kp m p q' f' bd v' name = some d
  rparam : cringleref29_Param.f kr m p q fs bd v name = some d
  small : (getF f' authT).1.size ≤ 5000
  words : ascii_Words.f kw ((getF f' authT).1.extract 7 (getF f' authT).1.size) = some wl
  token : percent_Get.f kk v' tokT = some tk
  bear : bearerR (getF f' authT).1 wl tk.1 = s
  rbear : cringleref29_Bearer.f kb m p q fs bd v = some s
  allv : percent_All.f ka v' name = some lv
  allq : percent_All.f kc q' name = some lq
  params : cringleref29_Params.f kd m p q fs bd v name = some (lv ++ lq)
  texts : cringleref01_Texts.f ke (lv ++ lq) (lv ++ lq) = some true
  len : lv.length + lq.length ≤ 1000000
  fl : f'.length ≤ 1000000
theorem get_all (m p : ByteArray) (q : List S84) (fs : List S38) (bd : ByteArray) (v : List S84) (name : ByteArray) (hf : FarC q v fs) (hn : name.size ≤ 1000) : ∃ q' f' v' g d s wl tk lv lq kt kg kp kr kw kk kb ka kc kd ke, GetA m p q fs bd v name q' f' v' g d s wl tk lv lq kt kg kp kr kw kk kb ka kc kd ke := by
  have hl := hf.len
  obtain ⟨kt, t1⟩ := theirs_all m p q fs bd v (by omega) (by omega) (by omega)
  obtain ⟨kg, t2⟩ := refget_ev name (by omega) m p q fs (by omega) bd v
  obtain ⟨kp, t3⟩ := param_ev m p q (fs.map u67) bd v name (by omega) (by omega)
  obtain ⟨kr, t4⟩ := refparam_ev m p q fs bd v name (by omega) (by omega)
  have hs := auth_small hf
  obtain ⟨kw, t5⟩ := Plain.words_ev ((getF (fs.map u67) authT).1.extract 7 (getF (fs.map u67) authT).1.size) (by rw [ByteArray.size_extract]; omega)
  obtain ⟨kk, t6⟩ := Plain.get_ev v (by omega) tokT
  obtain ⟨kb, t7⟩ := refbearer_ev m p q fs bd v (by omega) (by omega) hs
  obtain ⟨ka, t8⟩ := Plain.all_ev v (by omega) name
  obtain ⟨kc, t9⟩ := Plain.all_ev q (by omega) name
  obtain ⟨kd, t10⟩ := refparams_ev m p q fs bd v name (by omega) (by omega) (by omega)
  have l1 := Plain.allIn_len (Plain.D name) v
  have l2 := Plain.allIn_len (Plain.D name) q
  obtain ⟨ke, t11⟩ := Plain.texts_ev (Plain.allIn (Plain.D name) v ++ Plain.allIn (Plain.D name) q) (by rw [List.length_append]; omega)
  exact ⟨q.map Plain.m105, fs.map u67, v.map Plain.m105, _, _, _, _, _, _, _, kt, kg, kp, kr, kw, kk, kb, ka, kc, kd, ke, {
    theirs := t1 kt (Nat.le_refl _)
    get := rfl
    rget := t2 kg (Nat.le_refl _)
    param := t3 kp (Nat.le_refl _)
    rparam := t4 kr (Nat.le_refl _)
    small := hs
    words := t5 kw (Nat.le_refl _)
    token := t6 kk (Nat.le_refl _)
    bear := rfl
    rbear := t7 kb (Nat.le_refl _)
    allv := t8 ka (Nat.le_refl _)
    allq := t9 kc (Nat.le_refl _)
    params := t10 kd (Nat.le_refl _)
    texts := t11 ke (Nat.le_refl _)
    len := by omega
    fl := by rw [List.length_map]; omega }⟩
theorem p_theirs.calls {m p bd : ByteArray} {q : List S84} {f : List S38} {v : List S84} {q' : List S105} {f' : List S67} {v' : List S105} {Aq Af Am : Option Addr} {cq cf cm kt : Nat} {w : World} (h : LieR q f v Aq cq Af cf Am cm w) (ht : cringlelaw29_theirs.f kt m p q f bd v = some (m, p, q', f', bd, v')) :
    Calls Tryz.prog 12 #[.agg #[.string m, .string p, .slice Aq q.length cq, .slice Af f.length cf, .string bd, .slice Am v.length cm]] w fun e w' => ∃ Aq' cq' Af' cf' Am' cm', e = .returned (.agg #[.string m, .string p, .slice Aq' q'.length cq', .slice Af' f'.length cf', .string bd, .slice Am' v'.length cm']) ∧ LieX q' f' v' Aq' cq' Af' cf' Am' cm' w' ∧ Below w.heap.size w w' := by
  refine (cringlelaw29_theirs.calls kt m p Aq cq q Af cf f bd Am cm v m p q' f' bd v' w h.lq h.lqc h.lf h.lfc h.lv h.lvc ht).mono ?_
  rintro e w' ⟨v2, v3, v5, rfl, r2, r3, r5, hb⟩
  obtain ⟨A2, c2, rfl⟩ := Kd.R_slice r2
  obtain ⟨A3, c3, rfl⟩ := Kd.R_slice r3
  obtain ⟨A5, c5, rfl⟩ := Kd.R_slice r5
  exact ⟨A2, c2, A3, c3, A5, c5, rfl, ⟨(Kd.R_reads' r2).2.2, (Kd.R_reads' r2).2.1, (Kd.R_reads' r3).2.2, (Kd.R_reads' r3).2.1, (Kd.R_reads' r5).2.2, (Kd.R_reads' r5).2.1⟩, hb⟩
set_option maxHeartbeats 8000000 in
theorem law_Gets.calls {w : World} (hT : Tabs w) {m p bd name : ByteArray} {q v : List S84} {fs : List S38} {Aq Af Am : Option Addr} {cq cf cm : Nat} (hL : LieR q fs v Aq cq Af cf Am cm w) (hm : m.size ≤ 140737488351232) (hp : p.size ≤ 140737488351232) (hb : bd.size ≤ 140737488351232) (lq : q.length ≤ 4398046511104) (lv : v.length ≤ 4398046511104) (lf : fs.length ≤ 4398046511104) :
    Calls Tryz.prog 4 #[.agg #[.string m, .string p, .slice Aq q.length cq, .slice Af fs.length cf, .string bd, .slice Am v.length cm], .string name] w fun e w' => e = .returned (.bool true) ∧ Below w.heap.size w w' := by
  obtain ⟨W1, hW1⟩ : ∃ W, W = w.alloc (.cells #[.string m, .string p, .slice Aq q.length cq, .slice Af fs.length cf, .string bd, .slice Am v.length cm] 34) := ⟨_, rfl⟩
  have HA1 := Aside0.mk (show Blk.At w.heap.size #[.string m, .string p, .slice Aq q.length cq, .slice Af fs.length cf, .string bd, .slice Am v.length cm] 34 W1 from hW1 ▸ Blk.At.new w _ _)
  have hb1 : Below w.heap.size w W1 := hW1 ▸ below_alloc (Below.refl _ _) _
  have HB1 := Aside0.mk hb1
  have HL1 := Aside0.mk (hL.below hb1)
  have hfar := p_far.calls (m := m) (p := p) (bd := bd) (cq := cq) (cf := cf) (cm := cm) HL1.out.lq HL1.out.lf HL1.out.lv hm hp hb lq lv lf
  have x0 : W1.cell? ⟨w.heap.size, 0, none⟩ = some (.string m) := HA1.out.cell 0
  have x1 : W1.cell? ⟨w.heap.size, 1, none⟩ = some (.string p) := HA1.out.cell 1
  have x2 : W1.cell? ⟨w.heap.size, 2, none⟩ = some (.slice Aq q.length cq) := HA1.out.cell 2
  have x3 : W1.cell? ⟨w.heap.size, 3, none⟩ = some (.slice Af fs.length cf) := HA1.out.cell 3
  have x4 : W1.cell? ⟨w.heap.size, 4, none⟩ = some (.string bd) := HA1.out.cell 4
  have x5 : W1.cell? ⟨w.heap.size, 5, none⟩ = some (.slice Am v.length cm) := HA1.out.cell 5
  have HT := Aside0.mk hT
  replace hW1 := hW1.symm
  clear hL hm hp hb lq lv lf hb1 hT
  go_enter Tryz.func4, Tryz.ntmps4
  go_wp2_with fail
  refine hfar.mono ?_
  rintro e w2 ⟨b, rfl, hb2, hbf⟩
  have HB2 := Aside0.mk (below_step HB1.out hb2)
  have HL2 := Aside0.mk (HL1.out.below hb2)
  have HA2 := Aside0.mk (HA1.out.below hb2 HA1.out.lt)
  clear hb2 hfar HB1 HL1 HA1 x0 x1 x2 x3 x4 x5
  have hal := p_alive.calls (HT.out.below HB2.out)
  cases b with
  | true =>
    clear hbf
    go_wp2_with fail
    refine hal.mono ?_
    rintro e w9 ⟨rfl, hb⟩
    have HB9 := Aside0.mk (below_step HB2.out hb)
    clear hb hal
    go_wp2_with fail
    go_ret
    exact ⟨rfl, HB9.out⟩
  | false =>
    by_cases hn : name.size ≤ 1000
    · have hn' : decide ((name.size : Int) > 1000) = false := decide_eq_false (by omega)
      obtain ⟨q', f', v', g, d, s, wl, tk, lv, lq, kt, kg, kp, kr, kw, kk, kb, ka, kc, kd, ke, hA⟩ := get_all m p q fs bd v name (hbf rfl) hn
      have HA := Aside0.mk hA
      have HN := Aside0.mk hn
      obtain ⟨g1, gb⟩ := g
      obtain ⟨d1, db⟩ := d
      obtain ⟨s1, sb⟩ := s
      obtain ⟨tk1, tkb⟩ := tk
      have x0 : w2.cell? ⟨w.heap.size, 0, none⟩ = some (.string m) := HA2.out.cell 0
      have x1 : w2.cell? ⟨w.heap.size, 1, none⟩ = some (.string p) := HA2.out.cell 1
      have x2 : w2.cell? ⟨w.heap.size, 2, none⟩ = some (.slice Aq q.length cq) := HA2.out.cell 2
      have x3 : w2.cell? ⟨w.heap.size, 3, none⟩ = some (.slice Af fs.length cf) := HA2.out.cell 3
      have x4 : w2.cell? ⟨w.heap.size, 4, none⟩ = some (.string bd) := HA2.out.cell 4
      have x5 : w2.cell? ⟨w.heap.size, 5, none⟩ = some (.slice Am v.length cm) := HA2.out.cell 5
      have hth := p_theirs.calls HL2.out HA.out.theirs
      clear hbf hn hal hA
      go_wp2_with fail
      refine hth.mono ?_
      rintro e w3 ⟨Bq, dq, Bf, df, Bm, dm, rfl, hx, hb3⟩
      obtain ⟨W4, hW4⟩ : ∃ W, W = w3.alloc (.cells #[.string m, .string p, .slice Bq q'.length dq, .slice Bf f'.length df, .string bd, .slice Bm v'.length dm] 26) := ⟨_, rfl⟩
      have hb4 : Below w3.heap.size w3 W4 := hW4 ▸ below_alloc (Below.refl _ _) _
      have HB4 := Aside0.mk (below_step (below_step HB2.out hb3) hb4)
      have HL4 := Aside0.mk ((HL2.out.below hb3).below hb4)
      have HM4 := Aside0.mk (hx.below hb4)
      have HA4 := Aside0.mk ((HA2.out.below hb3 HA2.out.lt).below hb4 (HA2.out.below hb3 HA2.out.lt).lt)
      have HC4 := Aside0.mk (show Blk.At w3.heap.size #[.string m, .string p, .slice Bq q'.length dq, .slice Bf f'.length df, .string bd, .slice Bm v'.length dm] 26 W4 from hW4 ▸ Blk.At.new w3 _ _)
      generalize hg5 : w3.heap.size = g5 at *
      replace hW4 := hW4.symm
      clear hx hb3 hb4 hth x0 x1 x2 x3 x4 x5 HB2 HL2 HA2
      have hc_ := (by have h := p_Get.calls (Aq := Bq) (nq := q'.length) (cq := dq) (Am := Bm) (nm := v'.length) (cm := dm) (c := df) HM4.out.lf HA.out.fl m p bd name (Nat.le_trans HN.out (by decide)); rw [HA.out.get] at h; exact h : Calls Tryz.prog 13 #[.agg #[.string m, .string p, .slice Bq q'.length dq, .slice Bf f'.length df, .string bd, .slice Bm v'.length dm], .string name] W4 fun e w' => e = .returned (.tuple #[.string g1, .bool gb]) ∧ Below W4.heap.size W4 w')
      have x0 : W4.cell? ⟨w.heap.size, 0, none⟩ = some (.string m) := HA4.out.cell 0
      have x1 : W4.cell? ⟨w.heap.size, 1, none⟩ = some (.string p) := HA4.out.cell 1
      have x2 : W4.cell? ⟨w.heap.size, 2, none⟩ = some (.slice Aq q.length cq) := HA4.out.cell 2
      have x3 : W4.cell? ⟨w.heap.size, 3, none⟩ = some (.slice Af fs.length cf) := HA4.out.cell 3
      have x4 : W4.cell? ⟨w.heap.size, 4, none⟩ = some (.string bd) := HA4.out.cell 4
      have x5 : W4.cell? ⟨w.heap.size, 5, none⟩ = some (.slice Am v.length cm) := HA4.out.cell 5
      have y0 : W4.cell? ⟨g5, 0, none⟩ = some (.string m) := HC4.out.cell 0
      have y1 : W4.cell? ⟨g5, 1, none⟩ = some (.string p) := HC4.out.cell 1
      have y2 : W4.cell? ⟨g5, 2, none⟩ = some (.slice Bq q'.length dq) := HC4.out.cell 2
      have y3 : W4.cell? ⟨g5, 3, none⟩ = some (.slice Bf f'.length df) := HC4.out.cell 3
      have y4 : W4.cell? ⟨g5, 4, none⟩ = some (.string bd) := HC4.out.cell 4
      have y5 : W4.cell? ⟨g5, 5, none⟩ = some (.slice Bm v'.length dm) := HC4.out.cell 5
      go_wp2_with fail
      refine hc_.mono ?_
      rintro e w5 ⟨rfl, hb_⟩
      have HB5 := Aside0.mk (below_step HB4.out hb_)
      have HL5 := Aside0.mk (HL4.out.below hb_)
      have HM5 := Aside0.mk (HM4.out.below hb_)
      have HA5 := Aside0.mk (HA4.out.below hb_ HA4.out.lt)
      have HC5 := Aside0.mk (HC4.out.below hb_ HC4.out.lt)
      clear hb_ hc_ HB4 HL4 HM4 HA4 HC4 x0 x1 x2 x3 x4 x5 y0 y1 y2 y3 y4 y5
      have hc_ := cringleref29_Get.calls kg m p Aq cq q Af cf fs bd Am cm v name g1 gb w5 HL5.out.lq HL5.out.lqc HL5.out.lf HL5.out.lfc HL5.out.lv HL5.out.lvc HA.out.rget
      have x0 : w5.cell? ⟨w.heap.size, 0, none⟩ = some (.string m) := HA5.out.cell 0
      have x1 : w5.cell? ⟨w.heap.size, 1, none⟩ = some (.string p) := HA5.out.cell 1
      have x2 : w5.cell? ⟨w.heap.size, 2, none⟩ = some (.slice Aq q.length cq) := HA5.out.cell 2
      have x3 : w5.cell? ⟨w.heap.size, 3, none⟩ = some (.slice Af fs.length cf) := HA5.out.cell 3
      have x4 : w5.cell? ⟨w.heap.size, 4, none⟩ = some (.string bd) := HA5.out.cell 4
      have x5 : w5.cell? ⟨w.heap.size, 5, none⟩ = some (.slice Am v.length cm) := HA5.out.cell 5
      have y0 : w5.cell? ⟨g5, 0, none⟩ = some (.string m) := HC5.out.cell 0
      have y1 : w5.cell? ⟨g5, 1, none⟩ = some (.string p) := HC5.out.cell 1
      have y2 : w5.cell? ⟨g5, 2, none⟩ = some (.slice Bq q'.length dq) := HC5.out.cell 2
      have y3 : w5.cell? ⟨g5, 3, none⟩ = some (.slice Bf f'.length df) := HC5.out.cell 3
      have y4 : w5.cell? ⟨g5, 4, none⟩ = some (.string bd) := HC5.out.cell 4
      have y5 : w5.cell? ⟨g5, 5, none⟩ = some (.slice Bm v'.length dm) := HC5.out.cell 5
      go_wp2_with fail
      refine hc_.mono ?_
      rintro e w6 ⟨rfl, hb_⟩
      have HB6 := Aside0.mk (below_step HB5.out hb_)
      have HL6 := Aside0.mk (HL5.out.below hb_)
      have HM6 := Aside0.mk (HM5.out.below hb_)
      have HA6 := Aside0.mk (HA5.out.below hb_ HA5.out.lt)
      have HC6 := Aside0.mk (HC5.out.below hb_ HC5.out.lt)
      clear hb_ hc_ HB5 HL5 HM5 HA5 HC5 x0 x1 x2 x3 x4 x5 y0 y1 y2 y3 y4 y5
      have hc_ := http_Param.calls kp m p Bq dq q' Bf df f' bd Bm dm v' name d1 db w6 HM6.out.lq HM6.out.lqc HM6.out.lf HM6.out.lfc HM6.out.lv HM6.out.lvc HA.out.param
      have x0 : w6.cell? ⟨w.heap.size, 0, none⟩ = some (.string m) := HA6.out.cell 0
      have x1 : w6.cell? ⟨w.heap.size, 1, none⟩ = some (.string p) := HA6.out.cell 1
      have x2 : w6.cell? ⟨w.heap.size, 2, none⟩ = some (.slice Aq q.length cq) := HA6.out.cell 2
      have x3 : w6.cell? ⟨w.heap.size, 3, none⟩ = some (.slice Af fs.length cf) := HA6.out.cell 3
      have x4 : w6.cell? ⟨w.heap.size, 4, none⟩ = some (.string bd) := HA6.out.cell 4
      have x5 : w6.cell? ⟨w.heap.size, 5, none⟩ = some (.slice Am v.length cm) := HA6.out.cell 5
      have y0 : w6.cell? ⟨g5, 0, none⟩ = some (.string m) := HC6.out.cell 0
      have y1 : w6.cell? ⟨g5, 1, none⟩ = some (.string p) := HC6.out.cell 1
      have y2 : w6.cell? ⟨g5, 2, none⟩ = some (.slice Bq q'.length dq) := HC6.out.cell 2
      have y3 : w6.cell? ⟨g5, 3, none⟩ = some (.slice Bf f'.length df) := HC6.out.cell 3
      have y4 : w6.cell? ⟨g5, 4, none⟩ = some (.string bd) := HC6.out.cell 4
      have y5 : w6.cell? ⟨g5, 5, none⟩ = some (.slice Bm v'.length dm) := HC6.out.cell 5
      go_wp2_with fail
      refine hc_.mono ?_
      rintro e w7 ⟨rfl, hb_⟩
      have HB7 := Aside0.mk (below_step HB6.out hb_)
      have HL7 := Aside0.mk (HL6.out.below hb_)
      have HM7 := Aside0.mk (HM6.out.below hb_)
      have HA7 := Aside0.mk (HA6.out.below hb_ HA6.out.lt)
      have HC7 := Aside0.mk (HC6.out.below hb_ HC6.out.lt)
      clear hb_ hc_ HB6 HL6 HM6 HA6 HC6 x0 x1 x2 x3 x4 x5 y0 y1 y2 y3 y4 y5
      have hc_ := cringleref29_Param.calls kr m p Aq cq q Af cf fs bd Am cm v name d1 db w7 HL7.out.lq HL7.out.lqc HL7.out.lf HL7.out.lfc HL7.out.lv HL7.out.lvc HA.out.rparam
      have x0 : w7.cell? ⟨w.heap.size, 0, none⟩ = some (.string m) := HA7.out.cell 0
      have x1 : w7.cell? ⟨w.heap.size, 1, none⟩ = some (.string p) := HA7.out.cell 1
      have x2 : w7.cell? ⟨w.heap.size, 2, none⟩ = some (.slice Aq q.length cq) := HA7.out.cell 2
      have x3 : w7.cell? ⟨w.heap.size, 3, none⟩ = some (.slice Af fs.length cf) := HA7.out.cell 3
      have x4 : w7.cell? ⟨w.heap.size, 4, none⟩ = some (.string bd) := HA7.out.cell 4
      have x5 : w7.cell? ⟨w.heap.size, 5, none⟩ = some (.slice Am v.length cm) := HA7.out.cell 5
      have y0 : w7.cell? ⟨g5, 0, none⟩ = some (.string m) := HC7.out.cell 0
      have y1 : w7.cell? ⟨g5, 1, none⟩ = some (.string p) := HC7.out.cell 1
      have y2 : w7.cell? ⟨g5, 2, none⟩ = some (.slice Bq q'.length dq) := HC7.out.cell 2
      have y3 : w7.cell? ⟨g5, 3, none⟩ = some (.slice Bf f'.length df) := HC7.out.cell 3
      have y4 : w7.cell? ⟨g5, 4, none⟩ = some (.string bd) := HC7.out.cell 4
      have y5 : w7.cell? ⟨g5, 5, none⟩ = some (.slice Bm v'.length dm) := HC7.out.cell 5
      go_wp2_with fail
      refine hc_.mono ?_
      rintro e w8 ⟨rfl, hb_⟩
      have HB8 := Aside0.mk (below_step HB7.out hb_)
      have HL8 := Aside0.mk (HL7.out.below hb_)
      have HM8 := Aside0.mk (HM7.out.below hb_)
      have HA8 := Aside0.mk (HA7.out.below hb_ HA7.out.lt)
      have HC8 := Aside0.mk (HC7.out.below hb_ HC7.out.lt)
      clear hb_ hc_ HB7 HL7 HM7 HA7 HC7 x0 x1 x2 x3 x4 x5 y0 y1 y2 y3 y4 y5
      have hc_ := (by have h := p_Bearer.calls (Aq := Bq) (nq := q'.length) (cq := dq) (c := df) HM8.out.lf HM8.out.lv HM8.out.lvc HA.out.fl (Nat.le_trans HA.out.small (by decide)) m p bd (fun _ => HA.out.words) HA.out.token; rw [HA.out.bear] at h; exact h : Calls Tryz.prog 17 #[.agg #[.string m, .string p, .slice Bq q'.length dq, .slice Bf f'.length df, .string bd, .slice Bm v'.length dm]] w8 fun e w' => e = .returned (.tuple #[.string s1, .bool sb]) ∧ Below w8.heap.size w8 w')
      have x0 : w8.cell? ⟨w.heap.size, 0, none⟩ = some (.string m) := HA8.out.cell 0
      have x1 : w8.cell? ⟨w.heap.size, 1, none⟩ = some (.string p) := HA8.out.cell 1
      have x2 : w8.cell? ⟨w.heap.size, 2, none⟩ = some (.slice Aq q.length cq) := HA8.out.cell 2
      have x3 : w8.cell? ⟨w.heap.size, 3, none⟩ = some (.slice Af fs.length cf) := HA8.out.cell 3
      have x4 : w8.cell? ⟨w.heap.size, 4, none⟩ = some (.string bd) := HA8.out.cell 4
      have x5 : w8.cell? ⟨w.heap.size, 5, none⟩ = some (.slice Am v.length cm) := HA8.out.cell 5
      have y0 : w8.cell? ⟨g5, 0, none⟩ = some (.string m) := HC8.out.cell 0
      have y1 : w8.cell? ⟨g5, 1, none⟩ = some (.string p) := HC8.out.cell 1
      have y2 : w8.cell? ⟨g5, 2, none⟩ = some (.slice Bq q'.length dq) := HC8.out.cell 2
      have y3 : w8.cell? ⟨g5, 3, none⟩ = some (.slice Bf f'.length df) := HC8.out.cell 3
      have y4 : w8.cell? ⟨g5, 4, none⟩ = some (.string bd) := HC8.out.cell 4
      have y5 : w8.cell? ⟨g5, 5, none⟩ = some (.slice Bm v'.length dm) := HC8.out.cell 5
      go_wp2_with fail
      refine hc_.mono ?_
      rintro e w9 ⟨rfl, hb_⟩
      have HB9 := Aside0.mk (below_step HB8.out hb_)
      have HL9 := Aside0.mk (HL8.out.below hb_)
      have HM9 := Aside0.mk (HM8.out.below hb_)
      have HA9 := Aside0.mk (HA8.out.below hb_ HA8.out.lt)
      have HC9 := Aside0.mk (HC8.out.below hb_ HC8.out.lt)
      clear hb_ hc_ HB8 HL8 HM8 HA8 HC8 x0 x1 x2 x3 x4 x5 y0 y1 y2 y3 y4 y5
      have hc_ := cringleref29_Bearer.calls kb m p Aq cq q Af cf fs bd Am cm v s1 sb w9 HL9.out.lq HL9.out.lqc HL9.out.lf HL9.out.lfc HL9.out.lv HL9.out.lvc HA.out.rbear
      have x0 : w9.cell? ⟨w.heap.size, 0, none⟩ = some (.string m) := HA9.out.cell 0
      have x1 : w9.cell? ⟨w.heap.size, 1, none⟩ = some (.string p) := HA9.out.cell 1
      have x2 : w9.cell? ⟨w.heap.size, 2, none⟩ = some (.slice Aq q.length cq) := HA9.out.cell 2
      have x3 : w9.cell? ⟨w.heap.size, 3, none⟩ = some (.slice Af fs.length cf) := HA9.out.cell 3
      have x4 : w9.cell? ⟨w.heap.size, 4, none⟩ = some (.string bd) := HA9.out.cell 4
      have x5 : w9.cell? ⟨w.heap.size, 5, none⟩ = some (.slice Am v.length cm) := HA9.out.cell 5
      have y0 : w9.cell? ⟨g5, 0, none⟩ = some (.string m) := HC9.out.cell 0
      have y1 : w9.cell? ⟨g5, 1, none⟩ = some (.string p) := HC9.out.cell 1
      have y2 : w9.cell? ⟨g5, 2, none⟩ = some (.slice Bq q'.length dq) := HC9.out.cell 2
      have y3 : w9.cell? ⟨g5, 3, none⟩ = some (.slice Bf f'.length df) := HC9.out.cell 3
      have y4 : w9.cell? ⟨g5, 4, none⟩ = some (.string bd) := HC9.out.cell 4
      have y5 : w9.cell? ⟨g5, 5, none⟩ = some (.slice Bm v'.length dm) := HC9.out.cell 5
      go_wp2_with fail
      refine hc_.mono ?_
      rintro e w10 ⟨rfl, hb_⟩
      have HB10 := Aside0.mk (below_step HB9.out hb_)
      have HL10 := Aside0.mk (HL9.out.below hb_)
      have HM10 := Aside0.mk (HM9.out.below hb_)
      have HA10 := Aside0.mk (HA9.out.below hb_ HA9.out.lt)
      have HC10 := Aside0.mk (HC9.out.below hb_ HC9.out.lt)
      clear hb_ hc_ HB9 HL9 HM9 HA9 HC9 x0 x1 x2 x3 x4 x5 y0 y1 y2 y3 y4 y5
      have x0 : w10.cell? ⟨w.heap.size, 0, none⟩ = some (.string m) := HA10.out.cell 0
      have x1 : w10.cell? ⟨w.heap.size, 1, none⟩ = some (.string p) := HA10.out.cell 1
      have x2 : w10.cell? ⟨w.heap.size, 2, none⟩ = some (.slice Aq q.length cq) := HA10.out.cell 2
      have x3 : w10.cell? ⟨w.heap.size, 3, none⟩ = some (.slice Af fs.length cf) := HA10.out.cell 3
      have x4 : w10.cell? ⟨w.heap.size, 4, none⟩ = some (.string bd) := HA10.out.cell 4
      have x5 : w10.cell? ⟨w.heap.size, 5, none⟩ = some (.slice Am v.length cm) := HA10.out.cell 5
      have y0 : w10.cell? ⟨g5, 0, none⟩ = some (.string m) := HC10.out.cell 0
      have y1 : w10.cell? ⟨g5, 1, none⟩ = some (.string p) := HC10.out.cell 1
      have y2 : w10.cell? ⟨g5, 2, none⟩ = some (.slice Bq q'.length dq) := HC10.out.cell 2
      have y3 : w10.cell? ⟨g5, 3, none⟩ = some (.slice Bf f'.length df) := HC10.out.cell 3
      have y4 : w10.cell? ⟨g5, 4, none⟩ = some (.string bd) := HC10.out.cell 4
      have y5 : w10.cell? ⟨g5, 5, none⟩ = some (.slice Bm v'.length dm) := HC10.out.cell 5
      go_wp2_with fail
      refine start_ (n := 41) (S := fun w' => w'.cell? ⟨w.heap.size, 0, none⟩ = some (.string m) ∧ w'.cell? ⟨w.heap.size, 1, none⟩ = some (.string p) ∧ w'.cell? ⟨w.heap.size, 2, none⟩ = some (.slice Aq q.length cq) ∧ w'.cell? ⟨w.heap.size, 3, none⟩ = some (.slice Af fs.length cf) ∧ w'.cell? ⟨w.heap.size, 4, none⟩ = some (.string bd) ∧ w'.cell? ⟨w.heap.size, 5, none⟩ = some (.slice Am v.length cm) ∧ w'.cell? ⟨g5, 0, none⟩ = some (.string m) ∧ w'.cell? ⟨g5, 1, none⟩ = some (.string p) ∧ w'.cell? ⟨g5, 2, none⟩ = some (.slice Bq q'.length dq) ∧ w'.cell? ⟨g5, 3, none⟩ = some (.slice Bf f'.length df) ∧ w'.cell? ⟨g5, 4, none⟩ = some (.string bd) ∧ w'.cell? ⟨g5, 5, none⟩ = some (.slice Bm v'.length dm)) (ds := []) #[false, false, false, false, false, false, false, false, false, false, false, false, false, false, false, false, false, false, false, false, false, false, false, false, false, false, false, false, false, false, false, false, false, false, false, false, false, false, false, false, false] (by kernel_rfl) rfl rfl ⟨x0, x1, x2, x3, x4, x5, y0, y1, y2, y3, y4, y5⟩ (fun hHeld => ?_)
      refine pure_ (i := 0) (N := some 62) (v := ?_) (a' := ?_) #[true, false, false, false, false, false, false, false, false, false, false, false, false, false, false, false, false, false, false, false, false, false, false, false, false, false, false, false, false, false, false, false, false, false, false, false, false, false, false, false, false] rfl rfl (by kernel_rfl) (fun _ _ _ h => h) (Or.inl ⟨by rfl, ?_⟩) ?_ ?_
      rotate_left
      · intro w'
        go_simp
        with_reducible rfl
      rotate_left
      · simp only [Act.put, List.setIfInBounds_toArray, List.set_cons_zero, List.set_cons_succ, i64_w, i32_w]
        rfl
      refine pure_ (i := 1) (N := some 63) (v := ?_) (a' := ?_) #[true, true, false, false, false, false, false, false, false, false, false, false, false, false, false, false, false, false, false, false, false, false, false, false, false, false, false, false, false, false, false, false, false, false, false, false, false, false, false, false, false] rfl rfl (by kernel_rfl) (fun _ _ _ h => h) (Or.inl ⟨by rfl, ?_⟩) ?_ ?_
      rotate_left
      · intro w'
        go_simp
        with_reducible rfl
      rotate_left
      · simp only [Act.put, List.setIfInBounds_toArray, List.set_cons_zero, List.set_cons_succ, i64_w, i32_w]
        rfl
      refine pure_ (i := 2) (N := some 64) (v := ?_) (a' := ?_) #[true, true, true, false, false, false, false, false, false, false, false, false, false, false, false, false, false, false, false, false, false, false, false, false, false, false, false, false, false, false, false, false, false, false, false, false, false, false, false, false, false] rfl rfl (by kernel_rfl) (fun _ _ _ h => h) (Or.inl ⟨by rfl, ?_⟩) ?_ ?_
      rotate_left
      · intro w'
        go_simp
        with_reducible rfl
      rotate_left
      · simp only [Act.put, List.setIfInBounds_toArray, List.set_cons_zero, List.set_cons_succ, i64_w, i32_w]
        rfl
      refine pure_ (i := 3) (N := some 65) (v := ?_) (a' := ?_) #[true, true, true, true, false, false, false, false, false, false, false, false, false, false, false, false, false, false, false, false, false, false, false, false, false, false, false, false, false, false, false, false, false, false, false, false, false, false, false, false, false] rfl rfl (by kernel_rfl) (fun _ _ _ h => h) (Or.inl ⟨by rfl, ?_⟩) ?_ ?_
      rotate_left
      · intro w'
        go_simp
        with_reducible rfl
      rotate_left
      · simp only [Act.put, List.setIfInBounds_toArray, List.set_cons_zero, List.set_cons_succ, i64_w, i32_w]
        rfl
      refine pure_ (i := 4) (N := some 66) (v := ?_) (a' := ?_) #[true, true, true, true, true, false, false, false, false, false, false, false, false, false, false, false, false, false, false, false, false, false, false, false, false, false, false, false, false, false, false, false, false, false, false, false, false, false, false, false, false] rfl rfl (by kernel_rfl) (fun _ _ _ h => h) (Or.inl ⟨by rfl, ?_⟩) ?_ ?_
      rotate_left
      · intro w'
        go_simp
        with_reducible rfl
      rotate_left
      · simp only [Act.put, List.setIfInBounds_toArray, List.set_cons_zero, List.set_cons_succ, i64_w, i32_w]
        rfl
      refine pure_ (i := 5) (N := some 67) (v := ?_) (a' := ?_) #[true, true, true, true, true, true, false, false, false, false, false, false, false, false, false, false, false, false, false, false, false, false, false, false, false, false, false, false, false, false, false, false, false, false, false, false, false, false, false, false, false] rfl rfl (by kernel_rfl) (fun _ _ _ h => h) (Or.inl ⟨by rfl, ?_⟩) ?_ ?_
      rotate_left
      · intro w'
        go_simp
        with_reducible rfl
      rotate_left
      · simp only [Act.put, List.setIfInBounds_toArray, List.set_cons_zero, List.set_cons_succ, i64_w, i32_w]
        rfl
      refine pure_ (i := 6) (N := some 68) (v := ?_) (a' := ?_) #[true, true, true, true, true, true, true, false, false, false, false, false, false, false, false, false, false, false, false, false, false, false, false, false, false, false, false, false, false, false, false, false, false, false, false, false, false, false, false, false, false] rfl rfl (by kernel_rfl) (fun _ _ _ h => h) (Or.inl ⟨by rfl, ?_⟩) ?_ ?_
      rotate_left
      · intro w'
        go_simp
        with_reducible rfl
      rotate_left
      · simp only [Act.put, List.setIfInBounds_toArray, List.set_cons_zero, List.set_cons_succ, i64_w, i32_w]
        rfl
      refine pure_ (i := 7) (N := some 69) (v := ?_) (a' := ?_) #[true, true, true, true, true, true, true, true, false, false, false, false, false, false, false, false, false, false, false, false, false, false, false, false, false, false, false, false, false, false, false, false, false, false, false, false, false, false, false, false, false] rfl rfl (by kernel_rfl) (fun _ _ _ h => h) (Or.inl ⟨by rfl, ?_⟩) ?_ ?_
      rotate_left
      · intro w'
        go_simp
        with_reducible rfl
      rotate_left
      · simp only [Act.put, List.setIfInBounds_toArray, List.set_cons_zero, List.set_cons_succ, i64_w, i32_w]
        rfl
      refine pure_ (i := 8) (N := some 70) (v := ?_) (a' := ?_) #[true, true, true, true, true, true, true, true, true, false, false, false, false, false, false, false, false, false, false, false, false, false, false, false, false, false, false, false, false, false, false, false, false, false, false, false, false, false, false, false, false] rfl rfl (by kernel_rfl) (fun _ _ _ h => h) (Or.inl ⟨by rfl, ?_⟩) ?_ ?_
      rotate_left
      · intro w'
        go_simp
        with_reducible rfl
      rotate_left
      · simp only [Act.put, List.setIfInBounds_toArray, List.set_cons_zero, List.set_cons_succ, i64_w, i32_w]
        rfl
      refine pure_ (i := 9) (N := some 71) (v := ?_) (a' := ?_) #[true, true, true, true, true, true, true, true, true, true, false, false, false, false, false, false, false, false, false, false, false, false, false, false, false, false, false, false, false, false, false, false, false, false, false, false, false, false, false, false, false] rfl rfl (by kernel_rfl) (fun _ _ _ h => h) (Or.inl ⟨by rfl, ?_⟩) ?_ ?_
      rotate_left
      · intro w'
        go_simp
        with_reducible rfl
      rotate_left
      · simp only [Act.put, List.setIfInBounds_toArray, List.set_cons_zero, List.set_cons_succ, i64_w, i32_w]
        rfl
      refine pure_ (i := 10) (N := some 72) (v := ?_) (a' := ?_) #[true, true, true, true, true, true, true, true, true, true, true, false, false, false, false, false, false, false, false, false, false, false, false, false, false, false, false, false, false, false, false, false, false, false, false, false, false, false, false, false, false] rfl rfl (by kernel_rfl) (fun _ _ _ h => h) (Or.inl ⟨by rfl, ?_⟩) ?_ ?_
      rotate_left
      · intro w'
        go_simp
        with_reducible rfl
      rotate_left
      · simp only [Act.put, List.setIfInBounds_toArray, List.set_cons_zero, List.set_cons_succ, i64_w, i32_w]
        rfl
      refine pure_ (i := 11) (N := some 73) (v := ?_) (a' := ?_) #[true, true, true, true, true, true, true, true, true, true, true, true, false, false, false, false, false, false, false, false, false, false, false, false, false, false, false, false, false, false, false, false, false, false, false, false, false, false, false, false, false] rfl rfl (by kernel_rfl) (fun _ _ _ h => h) (Or.inl ⟨by rfl, ?_⟩) ?_ ?_
      rotate_left
      · intro w'
        go_simp
        with_reducible rfl
      rotate_left
      · simp only [Act.put, List.setIfInBounds_toArray, List.set_cons_zero, List.set_cons_succ, i64_w, i32_w]
        rfl
      refine pure_ (i := 12) (N := some 74) (v := ?_) (a' := ?_) #[true, true, true, true, true, true, true, true, true, true, true, true, true, false, false, false, false, false, false, false, false, false, false, false, false, false, false, false, false, false, false, false, false, false, false, false, false, false, false, false, false] rfl rfl (by kernel_rfl) (fun _ _ _ h => h) (Or.inl ⟨by rfl, ?_⟩) ?_ ?_
      rotate_left
      · intro w'
        go_simp
        with_reducible rfl
      rotate_left
      · simp only [Act.put, List.setIfInBounds_toArray, List.set_cons_zero, List.set_cons_succ, i64_w, i32_w]
        rfl
      refine pure_ (i := 13) (N := some 75) (v := ?_) (a' := ?_) #[true, true, true, true, true, true, true, true, true, true, true, true, true, true, false, false, false, false, false, false, false, false, false, false, false, false, false, false, false, false, false, false, false, false, false, false, false, false, false, false, false] rfl rfl (by kernel_rfl) (fun _ _ _ h => h) (Or.inl ⟨by rfl, ?_⟩) ?_ ?_
      rotate_left
      · intro w'
        go_simp
        with_reducible rfl
      rotate_left
      · simp only [Act.put, List.setIfInBounds_toArray, List.set_cons_zero, List.set_cons_succ, i64_w, i32_w]
        rfl
      refine pure_ (i := 14) (N := some 76) (v := ?_) (a' := ?_) #[true, true, true, true, true, true, true, true, true, true, true, true, true, true, true, false, false, false, false, false, false, false, false, false, false, false, false, false, false, false, false, false, false, false, false, false, false, false, false, false, false] rfl rfl (by kernel_rfl) (fun _ _ _ h => h) (Or.inl ⟨by rfl, ?_⟩) ?_ ?_
      rotate_left
      · intro w'
        go_simp
        with_reducible rfl
      rotate_left
      · simp only [Act.put, List.setIfInBounds_toArray, List.set_cons_zero, List.set_cons_succ, i64_w, i32_w]
        rfl
      refine pure_ (i := 15) (N := some 77) (v := ?_) (a' := ?_) #[true, true, true, true, true, true, true, true, true, true, true, true, true, true, true, true, false, false, false, false, false, false, false, false, false, false, false, false, false, false, false, false, false, false, false, false, false, false, false, false, false] rfl rfl (by kernel_rfl) (fun _ _ _ h => h) (Or.inl ⟨by rfl, ?_⟩) ?_ ?_
      rotate_left
      · intro w'
        go_simp
        with_reducible rfl
      rotate_left
      · simp only [Act.put, List.setIfInBounds_toArray, List.set_cons_zero, List.set_cons_succ, i64_w, i32_w]
        rfl
      refine pure_ (i := 16) (N := some 78) (v := ?_) (a' := ?_) #[true, true, true, true, true, true, true, true, true, true, true, true, true, true, true, true, true, false, false, false, false, false, false, false, false, false, false, false, false, false, false, false, false, false, false, false, false, false, false, false, false] rfl rfl (by kernel_rfl) (fun _ _ _ h => h) (Or.inl ⟨by rfl, ?_⟩) ?_ ?_
      rotate_left
      · intro w'
        go_simp
        with_reducible rfl
      rotate_left
      · simp only [Act.put, List.setIfInBounds_toArray, List.set_cons_zero, List.set_cons_succ, i64_w, i32_w]
        rfl
      refine pure_ (i := 17) (N := some 79) (v := ?_) (a' := ?_) #[true, true, true, true, true, true, true, true, true, true, true, true, true, true, true, true, true, true, false, false, false, false, false, false, false, false, false, false, false, false, false, false, false, false, false, false, false, false, false, false, false] rfl rfl (by kernel_rfl) (fun _ _ _ h => h) (Or.inl ⟨by rfl, ?_⟩) ?_ ?_
      rotate_left
      · intro w'
        go_simp
        with_reducible rfl
      rotate_left
      · simp only [Act.put, List.setIfInBounds_toArray, List.set_cons_zero, List.set_cons_succ, i64_w, i32_w]
        rfl
      refine pure_ (i := 18) (N := some 80) (v := ?_) (a' := ?_) #[true, true, true, true, true, true, true, true, true, true, true, true, true, true, true, true, true, true, true, false, false, false, false, false, false, false, false, false, false, false, false, false, false, false, false, false, false, false, false, false, false] rfl rfl (by kernel_rfl) (fun _ _ _ h => h) (Or.inl ⟨by rfl, ?_⟩) ?_ ?_
      rotate_left
      · intro w'
        go_simp
        with_reducible rfl
      rotate_left
      · simp only [Act.put, List.setIfInBounds_toArray, List.set_cons_zero, List.set_cons_succ, i64_w, i32_w]
        rfl
      refine pure_ (i := 19) (N := some 81) (v := ?_) (a' := ?_) #[true, true, true, true, true, true, true, true, true, true, true, true, true, true, true, true, true, true, true, true, false, false, false, false, false, false, false, false, false, false, false, false, false, false, false, false, false, false, false, false, false] rfl rfl (by kernel_rfl) (fun _ _ _ h => h) (Or.inl ⟨by rfl, ?_⟩) ?_ ?_
      rotate_left
      · intro w'
        go_simp
        with_reducible rfl
      rotate_left
      · simp only [Act.put, List.setIfInBounds_toArray, List.set_cons_zero, List.set_cons_succ, i64_w, i32_w]
        rfl
      refine pure_ (i := 20) (N := some 82) (v := ?_) (a' := ?_) #[true, true, true, true, true, true, true, true, true, true, true, true, true, true, true, true, true, true, true, true, true, false, false, false, false, false, false, false, false, false, false, false, false, false, false, false, false, false, false, false, false] rfl rfl (by kernel_rfl) (fun _ _ _ h => h) (Or.inl ⟨by rfl, ?_⟩) ?_ ?_
      rotate_left
      · intro w'
        go_simp
        with_reducible rfl
      rotate_left
      · simp only [Act.put, List.setIfInBounds_toArray, List.set_cons_zero, List.set_cons_succ, i64_w, i32_w]
        rfl
      refine pure_ (i := 21) (N := some 83) (v := ?_) (a' := ?_) #[true, true, true, true, true, true, true, true, true, true, true, true, true, true, true, true, true, true, true, true, true, true, false, false, false, false, false, false, false, false, false, false, false, false, false, false, false, false, false, false, false] rfl rfl (by kernel_rfl) (fun _ _ _ h => h) (Or.inl ⟨by rfl, ?_⟩) ?_ ?_
      rotate_left
      · intro w'
        go_simp
        with_reducible rfl
      rotate_left
      · simp only [Act.put, List.setIfInBounds_toArray, List.set_cons_zero, List.set_cons_succ, i64_w, i32_w]
        rfl
      refine pure_ (i := 22) (N := some 84) (v := ?_) (a' := ?_) #[true, true, true, true, true, true, true, true, true, true, true, true, true, true, true, true, true, true, true, true, true, true, true, false, false, false, false, false, false, false, false, false, false, false, false, false, false, false, false, false, false] rfl rfl (by kernel_rfl) (fun _ _ _ h => h) (Or.inl ⟨by rfl, ?_⟩) ?_ ?_
      rotate_left
      · intro w'
        go_simp
        with_reducible rfl
      rotate_left
      · simp only [Act.put, List.setIfInBounds_toArray, List.set_cons_zero, List.set_cons_succ, i64_w, i32_w]
        rfl
      refine pure_ (i := 23) (N := some 85) (v := ?_) (a' := ?_) #[true, true, true, true, true, true, true, true, true, true, true, true, true, true, true, true, true, true, true, true, true, true, true, true, false, false, false, false, false, false, false, false, false, false, false, false, false, false, false, false, false] rfl rfl (by kernel_rfl) (fun _ _ _ h => h) (Or.inl ⟨by rfl, ?_⟩) ?_ ?_
      rotate_left
      · intro w'
        go_simp
        with_reducible rfl
      rotate_left
      · simp only [Act.put, List.setIfInBounds_toArray, List.set_cons_zero, List.set_cons_succ, i64_w, i32_w]
        rfl
      refine pure_ (i := 24) (N := some 86) (v := ?_) (a' := ?_) #[true, true, true, true, true, true, true, true, true, true, true, true, true, true, true, true, true, true, true, true, true, true, true, true, true, false, false, false, false, false, false, false, false, false, false, false, false, false, false, false, false] rfl rfl (by kernel_rfl) (fun _ _ _ h => h) (Or.inl ⟨by rfl, ?_⟩) ?_ ?_
      rotate_left
      · intro w'
        go_simp
        with_reducible rfl
      rotate_left
      · simp only [Act.put, List.setIfInBounds_toArray, List.set_cons_zero, List.set_cons_succ, i64_w, i32_w]
        rfl
      refine pure_ (i := 25) (N := some 87) (v := ?_) (a' := ?_) #[true, true, true, true, true, true, true, true, true, true, true, true, true, true, true, true, true, true, true, true, true, true, true, true, true, true, false, false, false, false, false, false, false, false, false, false, false, false, false, false, false] rfl rfl (by kernel_rfl) (fun _ _ _ h => h) (Or.inl ⟨by rfl, ?_⟩) ?_ ?_
      rotate_left
      · intro w'
        go_simp
        with_reducible rfl
      rotate_left
      · simp only [Act.put, List.setIfInBounds_toArray, List.set_cons_zero, List.set_cons_succ, i64_w, i32_w]
        rfl
      refine pure_ (i := 26) (N := some 88) (v := ?_) (a' := ?_) #[true, true, true, true, true, true, true, true, true, true, true, true, true, true, true, true, true, true, true, true, true, true, true, true, true, true, true, false, false, false, false, false, false, false, false, false, false, false, false, false, false] rfl rfl (by kernel_rfl) (fun _ _ _ h => h) (Or.inl ⟨by rfl, ?_⟩) ?_ ?_
      rotate_left
      · intro w'
        go_simp
        with_reducible rfl
      rotate_left
      · simp only [Act.put, List.setIfInBounds_toArray, List.set_cons_zero, List.set_cons_succ, i64_w, i32_w]
        rfl
      refine pure_ (i := 27) (N := some 89) (v := ?_) (a' := ?_) #[true, true, true, true, true, true, true, true, true, true, true, true, true, true, true, true, true, true, true, true, true, true, true, true, true, true, true, true, false, false, false, false, false, false, false, false, false, false, false, false, false] rfl rfl (by kernel_rfl) (fun _ _ _ h => h) (Or.inl ⟨by rfl, ?_⟩) ?_ ?_
      rotate_left
      · intro w'
        go_simp
        with_reducible rfl
      rotate_left
      · simp only [Act.put, List.setIfInBounds_toArray, List.set_cons_zero, List.set_cons_succ, i64_w, i32_w]
        rfl
      refine pure_ (i := 28) (N := some 90) (v := ?_) (a' := ?_) #[true, true, true, true, true, true, true, true, true, true, true, true, true, true, true, true, true, true, true, true, true, true, true, true, true, true, true, true, true, false, false, false, false, false, false, false, false, false, false, false, false] rfl rfl (by kernel_rfl) (fun _ _ _ h => h) (Or.inl ⟨by rfl, ?_⟩) ?_ ?_
      rotate_left
      · intro w'
        go_simp
        with_reducible rfl
      rotate_left
      · simp only [Act.put, List.setIfInBounds_toArray, List.set_cons_zero, List.set_cons_succ, i64_w, i32_w]
        rfl
      refine pure_ (i := 30) (N := some 92) (v := ?_) (a' := ?_) #[true, true, true, true, true, true, true, true, true, true, true, true, true, true, true, true, true, true, true, true, true, true, true, true, true, true, true, true, true, false, true, false, false, false, false, false, false, false, false, false, false] rfl rfl (by kernel_rfl) (fun _ _ _ h => h) (Or.inl ⟨by rfl, ?_⟩) ?_ ?_
      rotate_left
      · intro w'
        go_simp
        with_reducible rfl
      rotate_left
      · simp only [Act.put, List.setIfInBounds_toArray, List.set_cons_zero, List.set_cons_succ, i64_w, i32_w]
        rfl
      refine pure_ (i := 33) (N := some 95) (v := ?_) (a' := ?_) #[true, true, true, true, true, true, true, true, true, true, true, true, true, true, true, true, true, true, true, true, true, true, true, true, true, true, true, true, true, false, true, false, false, true, false, false, false, false, false, false, false] rfl rfl (by kernel_rfl) (fun _ _ _ h => h) (Or.inl ⟨by rfl, ?_⟩) ?_ ?_
      rotate_left
      · intro w'
        go_simp
        with_reducible rfl
      rotate_left
      · simp only [Act.put, List.setIfInBounds_toArray, List.set_cons_zero, List.set_cons_succ, i64_w, i32_w]
        rfl
      refine take_ (i := 29) (N := some 91) (v := ?_) (a' := ?_) #[true, true, true, true, true, true, true, true, true, true, true, true, true, true, true, true, true, true, true, true, true, true, true, true, true, true, true, true, true, true, true, false, false, true, false, false, false, false, false, false, false] rfl rfl (by kernel_rfl) (fun _ _ _ h => h) (Or.inl ⟨by rfl, ?_⟩) hHeld ?_ ?_
      rotate_left
      · rintro w' ⟨s0, s1, s2, s3, s4, s5, s6, s7, s8, s9, s10, s11⟩
        go_simp
        with_reducible rfl
      rotate_left
      · simp only [Act.put, List.setIfInBounds_toArray, List.set_cons_zero, List.set_cons_succ, i64_w, i32_w]
        rfl
      refine take_ (i := 32) (N := some 94) (v := ?_) (a' := ?_) #[true, true, true, true, true, true, true, true, true, true, true, true, true, true, true, true, true, true, true, true, true, true, true, true, true, true, true, true, true, true, true, false, true, true, false, false, false, false, false, false, false] rfl rfl (by kernel_rfl) (fun _ _ _ h => h) (Or.inl ⟨by rfl, ?_⟩) hHeld ?_ ?_
      rotate_left
      · rintro w' ⟨s0, s1, s2, s3, s4, s5, s6, s7, s8, s9, s10, s11⟩
        go_simp
        with_reducible rfl
      rotate_left
      · simp only [Act.put, List.setIfInBounds_toArray, List.set_cons_zero, List.set_cons_succ, i64_w, i32_w]
        rfl
      refine one_ (i := 31) (N := some 93) #[true, true, true, true, true, true, true, true, true, true, true, true, true, true, true, true, true, true, true, true, true, true, true, true, true, true, true, true, true, true, true, true, true, true, false, false, false, false, false, false, false] rfl rfl (by kernel_rfl) (by decide) (fun K hK => ?_)
      refine goes_ Tryz.func20 (by kernel_rfl) rfl #[.agg #[.string m, .string p, .slice Bq q'.length dq, .slice Bf f'.length df, .string bd, .slice Bm v'.length dm], .string name] (by rfl) rfl rfl (by simp only [List.map_toArray, List.map_cons, List.map_nil]; rfl) ?_
      with_reducible refine (p_Params.calls (k1 := ka) (k2 := kc) (m := m) (p := p) (bd := bd) (nf := f'.length) (cf := df) (Af := Bf) (HM10.out.below (below_drew (Below.refl _ w10))).lq HM10.out.lqc (HM10.out.below (below_drew (Below.refl _ w10))).lv HM10.out.lvc HA.out.allv HA.out.allq HA.out.len).mono ?_
      rintro e w11 ⟨v11, rfl, hr_, hb_⟩
      refine ⟨_, rfl, ?_⟩
      obtain ⟨A11, c11_, rfl⟩ := Kd.R_slice hr_
      have HR11 := Aside0.mk (Kd.R_reads' hr_)
      clear hr_
      have HB11 := Aside0.mk (below_step (below_step HB10.out (below_drew (Below.refl _ w10))) hb_)
      have HL11 := Aside0.mk ((HL10.out.below (below_drew (Below.refl _ w10))).below hb_)
      have HM11 := Aside0.mk ((HM10.out.below (below_drew (Below.refl _ w10))).below hb_)
      have HA11 := Aside0.mk (HA10.out.below ((below_drew (Below.refl w10.heap.size w10)).trans hb_) HA10.out.lt)
      have HC11 := Aside0.mk (HC10.out.below ((below_drew (Below.refl w10.heap.size w10)).trans hb_) HC10.out.lt)
      clear hb_ HB10 HL10 HM10 HA10 HC10
      refine hK.out _ _ ⟨HA11.out.cell 0, HA11.out.cell 1, HA11.out.cell 2, HA11.out.cell 3, HA11.out.cell 4, HA11.out.cell 5, HC11.out.cell 0, HC11.out.cell 1, HC11.out.cell 2, HC11.out.cell 3, HC11.out.cell 4, HC11.out.cell 5⟩ (fun hHeld => ?_)
      clear hK K
      refine norm_ (a' := ?_) ?_ ?_
      rotate_left
      · show Act.put _ (some 93) _ = _
        simp only [Act.put, List.setIfInBounds_toArray, List.set_cons_zero, List.set_cons_succ, i64_w, i32_w]
        rfl
      refine one_ (i := 34) (N := some 96) #[true, true, true, true, true, true, true, true, true, true, true, true, true, true, true, true, true, true, true, true, true, true, true, true, true, true, true, true, true, true, true, true, true, true, true, false, false, false, false, false, false] rfl rfl (by kernel_rfl) (by decide) (fun K hK => ?_)
      refine goes_ Tryz.func21 (by kernel_rfl) rfl #[.agg #[.string m, .string p, .slice Aq q.length cq, .slice Af fs.length cf, .string bd, .slice Am v.length cm], .string name] (by rfl) rfl rfl (by simp only [List.map_toArray, List.map_cons, List.map_nil]; rfl) ?_
      with_reducible refine (cringleref29_Params.calls kd m p Aq cq q Af cf fs bd Am cm v name (lv ++ lq) w11 HL11.out.lq HL11.out.lqc HL11.out.lf HL11.out.lfc HL11.out.lv HL11.out.lvc HA.out.params).mono ?_
      rintro e w12 ⟨v12, rfl, hr_, hb_⟩
      refine ⟨_, rfl, ?_⟩
      obtain ⟨A12, c12_, rfl⟩ := Kd.R_slice hr_
      have HR12 := Aside0.mk (Kd.R_reads' hr_)
      have HS12 := Aside0.mk (Kd.C_below HR11.out.2.2 hb_)
      clear hr_
      have HB12 := Aside0.mk (below_step HB11.out hb_)
      have HL12 := Aside0.mk (HL11.out.below hb_)
      have HM12 := Aside0.mk (HM11.out.below hb_)
      have HA12 := Aside0.mk (HA11.out.below hb_ HA11.out.lt)
      have HC12 := Aside0.mk (HC11.out.below hb_ HC11.out.lt)
      clear hb_ HB11 HL11 HM11 HA11 HC11
      refine hK.out _ _ ⟨HA12.out.cell 0, HA12.out.cell 1, HA12.out.cell 2, HA12.out.cell 3, HA12.out.cell 4, HA12.out.cell 5, HC12.out.cell 0, HC12.out.cell 1, HC12.out.cell 2, HC12.out.cell 3, HC12.out.cell 4, HC12.out.cell 5⟩ (fun hHeld => ?_)
      clear hK K
      refine norm_ (a' := ?_) ?_ ?_
      rotate_left
      · show Act.put _ (some 96) _ = _
        simp only [Act.put, List.setIfInBounds_toArray, List.set_cons_zero, List.set_cons_succ, i64_w, i32_w]
        rfl
      refine one_ (i := 35) (N := some 97) #[true, true, true, true, true, true, true, true, true, true, true, true, true, true, true, true, true, true, true, true, true, true, true, true, true, true, true, true, true, true, true, true, true, true, true, true, false, false, false, false, false] rfl rfl (by kernel_rfl) (by decide) (fun K hK => ?_)
      refine goes_ Tryz.func19 (by kernel_rfl) rfl #[.slice A11 (lv ++ lq).length c11_, .slice A12 (lv ++ lq).length c12_] (by rfl) rfl rfl (by simp only [List.map_toArray, List.map_cons, List.map_nil]; rfl) ?_
      with_reducible refine ((cringleref01_Texts.calls ke A11 c11_ (lv ++ lq) A12 c12_ (lv ++ lq) true w12 HS12.out HR11.out.2.1 HR12.out.2.2 HR12.out.2.1 HA.out.texts).mono (fun e w' h => (⟨h.1, below_D0 h.2⟩ : e = Ending.returned (Value.bool true) ∧ Below w12.heap.size w12 w'))).mono ?_
      rintro e w13 ⟨rfl, hb_⟩
      refine ⟨_, rfl, ?_⟩
      have HB13 := Aside0.mk (below_step HB12.out hb_)
      have HL13 := Aside0.mk (HL12.out.below hb_)
      have HM13 := Aside0.mk (HM12.out.below hb_)
      have HA13 := Aside0.mk (HA12.out.below hb_ HA12.out.lt)
      have HC13 := Aside0.mk (HC12.out.below hb_ HC12.out.lt)
      clear hb_ HB12 HL12 HM12 HA12 HC12
      refine hK.out _ _ ⟨HA13.out.cell 0, HA13.out.cell 1, HA13.out.cell 2, HA13.out.cell 3, HA13.out.cell 4, HA13.out.cell 5, HC13.out.cell 0, HC13.out.cell 1, HC13.out.cell 2, HC13.out.cell 3, HC13.out.cell 4, HC13.out.cell 5⟩ (fun hHeld => ?_)
      clear hK K
      refine norm_ (a' := ?_) ?_ ?_
      rotate_left
      · show Act.put _ (some 97) _ = _
        simp only [Act.put, List.setIfInBounds_toArray, List.set_cons_zero, List.set_cons_succ, i64_w, i32_w]
        rfl
      refine pure_ (i := 36) (N := some 98) (v := ?_) (a' := ?_) #[true, true, true, true, true, true, true, true, true, true, true, true, true, true, true, true, true, true, true, true, true, true, true, true, true, true, true, true, true, true, true, true, true, true, true, true, true, false, false, false, false] rfl rfl (by kernel_rfl) (fun _ _ _ h => h) (Or.inl ⟨by rfl, ?_⟩) ?_ ?_
      rotate_left
      · intro w'
        go_simp
        with_reducible rfl
      rotate_left
      · simp only [Act.put, List.setIfInBounds_toArray, List.set_cons_zero, List.set_cons_succ, i64_w, i32_w]
        rfl
      refine pure_ (i := 37) (N := some 99) (v := ?_) (a' := ?_) #[true, true, true, true, true, true, true, true, true, true, true, true, true, true, true, true, true, true, true, true, true, true, true, true, true, true, true, true, true, true, true, true, true, true, true, true, true, true, false, false, false] rfl rfl (by kernel_rfl) (fun _ _ _ h => h) (Or.inl ⟨by rfl, ?_⟩) ?_ ?_
      rotate_left
      · intro w'
        go_simp
        with_reducible rfl
      rotate_left
      · simp only [Act.put, List.setIfInBounds_toArray, List.set_cons_zero, List.set_cons_succ, i64_w, i32_w]
        rfl
      refine one_ (i := 38) (N := some 100) #[true, true, true, true, true, true, true, true, true, true, true, true, true, true, true, true, true, true, true, true, true, true, true, true, true, true, true, true, true, true, true, true, true, true, true, true, true, true, true, false, false] rfl rfl (by kernel_rfl) (by decide) (fun K hK => ?_)
      refine goes_ Tryz.func5 (by kernel_rfl) rfl #[] (by rfl) rfl rfl (by simp only [List.map_toArray, List.map_cons, List.map_nil]) ?_
      with_reducible refine (p_alive.calls (HT.out.below HB13.out)).mono ?_
      rintro e w14 ⟨rfl, hb_⟩
      refine ⟨_, rfl, ?_⟩
      have HB14 := Aside0.mk (below_step HB13.out hb_)
      have HL14 := Aside0.mk (HL13.out.below hb_)
      have HM14 := Aside0.mk (HM13.out.below hb_)
      have HA14 := Aside0.mk (HA13.out.below hb_ HA13.out.lt)
      have HC14 := Aside0.mk (HC13.out.below hb_ HC13.out.lt)
      clear hb_ HB13 HL13 HM13 HA13 HC13
      refine hK.out _ _ ⟨HA14.out.cell 0, HA14.out.cell 1, HA14.out.cell 2, HA14.out.cell 3, HA14.out.cell 4, HA14.out.cell 5, HC14.out.cell 0, HC14.out.cell 1, HC14.out.cell 2, HC14.out.cell 3, HC14.out.cell 4, HC14.out.cell 5⟩ (fun hHeld => ?_)
      clear hK K
      refine norm_ (a' := ?_) ?_ ?_
      rotate_left
      · show Act.put _ (some 100) _ = _
        simp only [Act.put, List.setIfInBounds_toArray, List.set_cons_zero, List.set_cons_succ, i64_w, i32_w]
        rfl
      refine pure_ (i := 39) (N := some 101) (v := ?_) (a' := ?_) #[true, true, true, true, true, true, true, true, true, true, true, true, true, true, true, true, true, true, true, true, true, true, true, true, true, true, true, true, true, true, true, true, true, true, true, true, true, true, true, true, false] rfl rfl (by kernel_rfl) (fun _ _ _ h => h) (Or.inl ⟨by rfl, ?_⟩) ?_ ?_
      rotate_left
      · intro w'
        go_simp
        with_reducible rfl
      rotate_left
      · simp only [Act.put, List.setIfInBounds_toArray, List.set_cons_zero, List.set_cons_succ, i64_w, i32_w]
        rfl
      refine pure_ (i := 40) (N := some 4) (v := ?_) (a' := ?_) #[true, true, true, true, true, true, true, true, true, true, true, true, true, true, true, true, true, true, true, true, true, true, true, true, true, true, true, true, true, true, true, true, true, true, true, true, true, true, true, true, true] rfl rfl (by kernel_rfl) (fun _ _ _ h => h) (Or.inl ⟨by rfl, ?_⟩) ?_ ?_
      rotate_left
      · intro w'
        go_simp
        with_reducible rfl
      rotate_left
      · simp only [Act.put, List.setIfInBounds_toArray, List.set_cons_zero, List.set_cons_succ, i64_w, i32_w]
        rfl
      refine done_ (by kernel_rfl) ?_
      clear hHeld
      go_wp2_with fail
      go_ret
      exact ⟨by first | rfl | simp, HB14.out⟩
    · have hn' : decide ((name.size : Int) > 1000) = true := decide_eq_true (by omega)
      clear hbf hn
      go_wp2_with fail
      refine hal.mono ?_
      rintro e w9 ⟨rfl, hb⟩
      have HB9 := Aside0.mk (below_step HB2.out hb)
      clear hb hal
      go_wp2_with fail
      go_ret
      exact ⟨rfl, HB9.out⟩
end Go.Proofs.YtljlkpfiebcoeaaGreatDoor.H
