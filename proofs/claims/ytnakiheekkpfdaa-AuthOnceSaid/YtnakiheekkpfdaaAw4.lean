/- A desk's functions, walked: Drop; what is alive; a script. No condition but those typed. -/
import Derived.Test.YtnakiheekkpfdaaAw3
namespace Go.Proofs.Ytnakiheekkpfdaa.Q
open Go.RowKit Go.Maps Go.Sort Go.Shelf Go.Proofs.YtnakiheekkpfdaaW.PrintWords Go.Proofs.YtnakiheekkpfdaaW.PrintLast Go.Proofs.YtnakiheekkpfdaaW.PrintMore
attribute [local go_sem] max2_int min2_int max_two min_two max_three min_three max_four min_four   -- for this text's walks alone
set_option linter.unusedVariables false
set_option linter.unusedSimpArgs false
set_option maxRecDepth 100000
theorem filter_snoc {α : Type} (q : α → Bool) (l : List α) (n : Nat) (h : n < l.length) : (l.take (n + 1)).filter q = (l.take n).filter q ++ (if q l[n] then [l[n]] else []) := by
  rw [List.take_succ_eq_append_getElem h, List.filter_append]
  congr 1
  cases hq : q l[n] <;> simp [hq]
/-! ### A row of whole numbers, cut -/
theorem Is.set {F : Nat → Prop} {g c : Nat} {w : World} {rr : List Int} (h : Is w F (.slice (some ⟨g, 0, none⟩) rr.length c) rr) (i : Nat) (x : Int) :
    Is (w.setCell ⟨g, i, none⟩ (.int .i64 x)) F (.slice (some ⟨g, 0, none⟩) rr.length c) (rr.set i x) ∧ w.grownBy (w.setCell ⟨g, i, none⟩ (.int .i64 x)) (some g) := by
  have := Kd.R_put h (i : Int) x
  rw [Int.toNat_natCast] at this
  exact this
theorem Is.block {F : Nat → Prop} {g n c : Nat} {w : World} {rr : List Int} (h : Is w F (.slice (some ⟨g, 0, none⟩) n c) rr) : n ≤ c ∧ n = rr.length := by
  obtain ⟨c', hc⟩ := Kd.R_slice h
  obtain ⟨hc, e⟩ := hc
  cases e
  have ho := Kd.own_of_R h
  rcases ho.2 with ⟨h1, _⟩ | ⟨g', cap, cur, e, hb, hh, h1, _⟩
  · cases h1
  · cases e
    exact ⟨h1, rfl⟩
theorem Is.cell {F : Nat → Prop} {g n c : Nat} {w : World} {rr : List Int} (h : Is w F (.slice (some ⟨g, 0, none⟩) n c) rr) {j : Nat} (hj : j < rr.length) : w.cell? ⟨g, j, none⟩ = some (.int .i64 rr[j]) ∧ w.frozen? ⟨g, j, none⟩ = false := by
  obtain ⟨_, rfl⟩ := h.block
  have := Kd.R_cell (d := (0 : Int)) h (j : Int) (by omega) (by omega)
  simp only [Int.toNat_natCast] at this
  refine ⟨this.1.trans ?_, this.2⟩
  unfold rdOf
  rw [Int.toNat_natCast, List.getD_eq_getElem?_getD, List.getElem?_eq_getElem hj]
  rfl
theorem Is.head {F : Nat → Prop} {A : Option Addr} {c : Nat} {w : World} {rr : List Int} (h : Is w F (.slice A rr.length c) rr) (hn : 0 < rr.length) : ∃ g, A = some ⟨g, 0, none⟩ := by
  cases A with
  | none =>
    have ho := Kd.own_of_R h
    rcases ho.2 with ⟨h1, h2⟩ | ⟨g', cap, cur, e, _⟩
    · rw [h2] at hn
      first | (simp at hn) | omega
    · cases e
  | some ad =>
    obtain ⟨g, rfl⟩ := Kd.R_head h
    exact ⟨g, rfl⟩
theorem Is.clear {F : Nat → Prop} {g c : Nat} : ∀ (m i : Nat) {w : World} {rr : List Int}, Is w F (.slice (some ⟨g, 0, none⟩) rr.length c) rr → i + m = rr.length → ∃ rr', Is (w.setCells g i (List.replicate m (.int .i64 0))) F (.slice (some ⟨g, 0, none⟩) rr.length c) rr' ∧ rr'.length = rr.length ∧ rr'.take i = rr.take i ∧ w.grownBy (w.setCells g i (List.replicate m (.int .i64 0))) (some g)
  | 0, i, w, rr, h, _ => ⟨rr, h, rfl, rfl, ⟨rfl, rfl, rfl, Nat.le_refl _, fun _ _ _ => rfl⟩⟩
  | m + 1, i, w, rr, h, hm => by
    obtain ⟨h1, g1⟩ := h.set i 0
    have hl : (rr.set i 0).length = rr.length := List.length_set
    rw [← hl] at h1
    obtain ⟨rr', h2, h3, h4, g2⟩ := Is.clear m (i + 1) h1 (by rw [hl]; omega)
    rw [hl] at h2 h3
    refine ⟨rr', h2, h3, ?_, g1.trans g2⟩
    have := congrArg (List.take i) h4
    rw [List.take_take, List.take_take, Nat.min_eq_left (Nat.le_succ _)] at this
    rw [this, List.take_set_of_le (Nat.le_refl _)]
/-- How far the cut has come: the kept ones ahead, what is still to come behind. -/
structure Half (q : Int → Bool) (ss : List Int) (n i : Nat) (rr : List Int) : Prop where
  len : rr.length = ss.length
  le : i < n
  kept : rr.take i = (ss.take n).filter q
  rest : ∀ j, n ≤ j → rr[j]? = ss[j]?
theorem Half.drop {q : Int → Bool} {ss : List Int} {n i : Nat} {rr : List Int} (h : Half q ss n i rr) (hn : n < ss.length) (hq : q ss[n] = false) : Half q ss (n + 1) i rr :=
  ⟨h.len, by have := h.le; omega, by rw [filter_snoc q ss n hn, hq, h.kept]; simp, fun j hj => h.rest j (by omega)⟩
theorem Half.keep {q : Int → Bool} {ss : List Int} {n i : Nat} {rr : List Int} (h : Half q ss n i rr) (hn : n < ss.length) (hq : q ss[n] = true) : Half q ss (n + 1) (i + 1) (rr.set i ss[n]) :=
  ⟨by rw [List.length_set]; exact h.len, by have := h.le; omega, by
    have hi : i < rr.length := by have := h.le; have := h.len; omega
    rw [filter_snoc q ss n hn, hq, ← h.kept, List.take_succ_eq_append_getElem (by rw [List.length_set]; exact hi), List.take_set_of_le (Nat.le_refl _)]
    simp, fun j hj => by
    rw [List.getElem?_set_ne (by have := h.le; omega)]
    exact h.rest j (by omega)⟩
theorem Half.start {q : Int → Bool} {ss : List Int} {n : Nat} (hn : n < ss.length) (hq : q ss[n] = false) (ha : ∀ k ∈ ss.take n, q k = true) : Half q ss (n + 1) n ss :=
  ⟨rfl, Nat.lt_succ_self _, by
    rw [filter_snoc q ss n hn, hq, List.filter_eq_self.2 ha]
    simp, fun _ _ => rfl⟩
theorem zero3 (w : World) : (zeroValue 3).run Try.prog w = .ok (.int .i64 0) w := by kernel_rfl
def stayI (x k : Int) : Bool := decide (k ≠ x)
theorem p_is.calls {c : Nat} {x : Int} {w : World} (hc : Blk.At c #[.int .i64 x] 3 w) (k : Int) : Calls Try.prog 25 (#[.int .i64 k] ++ #[.pointer (some ⟨c, 0, none⟩)]) w fun e w' => e = .returned (.bool (!stayI x k)) ∧ w' = w := by
  show Calls Try.prog 25 #[.int .i64 k, .pointer (some ⟨c, 0, none⟩)] w _
  have x0 : w.cell? ⟨c, 0, none⟩ = some (.int .i64 x) := hc.cell 0
  have e1 : (!stayI x k) = (k == x) := by
    unfold stayI
    by_cases h : k = x <;> simp [h]
  rw [e1]
  clear hc e1
  go_enter Try.func25, Try.ntmps25
  go_wp2_with fail
  go_ret
  exact ⟨rfl, rfl⟩
set_option maxHeartbeats 1000000 in
theorem i_IndexFunc.calls {F : Nat → Prop} {A : Option Addr} {c cap : Nat} {x : Int} {l : List Int} {w : World} (hL : Is w F (.slice A l.length cap) l) (hc : Blk.At c #[.int .i64 x] 3 w) (hN : l.length ≤ 1000000) :
    Calls Try.prog 37 #[.slice A l.length cap, .func (.func 25) #[] #[.pointer (some ⟨c, 0, none⟩)]] w fun e w' => w' = w ∧ ∃ i : Int, e = .returned (.int .i64 i) ∧ ((i = -1 ∧ ∀ k ∈ l, stayI x k = true) ∨ ∃ n : Nat, i = n ∧ ∃ hn : n < l.length, stayI x l[n] = false ∧ ∀ k ∈ l.take n, stayI x k = true) := by
  have HL := Aside0.mk hL
  have HC := Aside0.mk hc
  have HN := Aside0.mk hN
  clear hL hc hN
  go_enter Try.func37, Try.ntmps37
  go_wp2_with fail
  go_loopw [8] (fun j wr => ∃ n : Nat, n ≤ l.length ∧ j = .int .i64 n ∧ Aside0 (wr = w) ∧ Aside0 (∀ k ∈ l.take n, stayI x k = true)) (fun j _ => l.length - (intOf j).toNat)
  case atStart => exact ⟨0, Nat.zero_le _, rfl, ⟨rfl⟩, ⟨by simp⟩⟩
  case round =>
    obtain ⟨n, hn, rfl, HW, HP⟩ := hrel
    by_cases hlt : n < l.length
    · obtain ⟨g, rfl⟩ := HL.out.head (by omega)
      have hx0 : wr.cell? ⟨g, n, none⟩ = some (.int .i64 l[n]) := by rw [HW.out]; exact (HL.out.cell hlt).1
      have hpr := p_is.calls (show Blk.At c #[.int .i64 x] 3 wr from HW.out ▸ HC.out) l[n]
      have HLT := Aside0.mk hlt
      have en : wrap64 ((n : Int) + 1) = ((n + 1 : Nat) : Int) := w64n (by have := HN.out; omega)
      obtain ⟨s, hs⟩ : ∃ s, s = l[n] := ⟨_, rfl⟩
      have HS := Aside0.mk hs
      rw [← hs] at hx0 hpr
      have HPR := Aside0.mk hpr
      clear hs hpr
      go_wp2_with fail
      refine HPR.out.mono ?_
      rintro e w4 ⟨rfl, rfl⟩
      clear HPR hx0
      cases hst : stayI x s with
      | true =>
        go_wp2_with fail
        rw [en]
        go_roundw
        case rel => exact ⟨n + 1, HLT.out, rfl, HW, ⟨fun k hk => by
          rw [List.take_succ_eq_append_getElem HLT.out] at hk
          rcases List.mem_append.1 hk with hk | hk
          · exact HP.out k hk
          · rw [List.mem_singleton.1 hk, ← HS.out]; exact hst⟩⟩
        case measure => simp [intOf]; have := HLT.out; omega
      | false =>
        go_wp2_with fail
        go_ret
        exact ⟨HW.out, n, rfl, .inr ⟨n, rfl, HLT.out, by rw [← HS.out]; exact hst, HP.out⟩⟩
    · obtain rfl : n = l.length := by omega
      go_wp2_with fail
      go_ret
      have hp := HP.out
      rw [List.take_length] at hp
      exact ⟨HW.out, -1, rfl, .inl ⟨rfl, hp⟩⟩
set_option maxHeartbeats 4000000 in
theorem i_DeleteFunc.calls {F : Nat → Prop} {A : Option Addr} {c cap : Nat} {x : Int} {l : List Int} {w : World} (hL : Is w F (.slice A l.length cap) l) (hc : Blk.At c #[.int .i64 x] 3 w) (hN : l.length ≤ 1000000) (hne : (Value.slice A l.length cap).ownBlock ≠ some c) :
    Calls Try.prog 26 #[.slice A l.length cap, .func (.func 25) #[] #[.pointer (some ⟨c, 0, none⟩)]] w fun e w' => ∃ v, e = .returned v ∧ Is w' F v (l.filter (stayI x)) ∧ v.ownBlock = (Value.slice A l.length cap).ownBlock ∧ w.grownBy w' (Value.slice A l.length cap).ownBlock := by
  have hI := i_IndexFunc.calls hL hc hN
  have HL := Aside0.mk hL
  have HC := Aside0.mk hc
  have HN := Aside0.mk hN
  have HNE := Aside0.mk hne
  clear hL hc hN hne
  go_enter Try.func26, Try.ntmps26
  go_wp2_with fail
  refine hI.mono ?_
  rintro e w1 ⟨rfl, i, rfl, hi⟩
  clear hI
  rcases hi with ⟨rfl, ha⟩ | ⟨n0, rfl, hn0, hst, ha⟩
  · have HA := Aside0.mk ha
    clear ha
    go_wp2_with fail
    go_ret
    rw [List.filter_eq_self.2 HA.out]
    exact ⟨_, rfl, HL.out, rfl, (grownBy_none (Below.refl _ _)).but _⟩
  · have HH := Aside0.mk (Half.start hn0 hst ha)
    have hne : ((n0 : Int) == -1) = false := beq_eq_false_iff_ne.2 (by omega)
    have HN0 := Aside0.mk hn0
    obtain ⟨g, rfl⟩ := HL.out.head (by omega)
    have hcap := HL.out.block.1
    have HCG := Aside0.mk (show g ≠ c from fun e => HNE.out (by rw [e]; rfl))
    have HNL := Aside0.mk (show l.length < 4611686018427387904 from by have := HN.out; omega)
    have en0 : wrap64 ((n0 : Int) + 1) = ((n0 + 1 : Nat) : Int) := w64n (by have := HNL.out; omega)
    have HG1 := Aside0.mk (show w1.grownBy w1 (some g) from (grownBy_none (Below.refl _ _)).but _)
    clear ha hst hn0
    go_wp2_with fail
    go_loopw [6, 5] (fun j v wr => ∃ n i rr, n ≤ l.length ∧ j = .int .i64 (n : Nat) ∧ v = .int .i64 (i : Nat) ∧ Aside0 (Half (stayI x) l n i rr) ∧ Aside0 (Is wr F (.slice (some ⟨g, 0, none⟩) l.length cap) rr) ∧ Aside0 (Blk.At c #[.int .i64 x] 3 wr) ∧ Aside0 (w1.grownBy wr (some g))) (fun j _ _ => l.length - (intOf j).toNat)
    case atStart => exact ⟨n0 + 1, n0, l, HN0.out, by rw [en0], rfl, HH, HL, HC, HG1⟩
    case round =>
      clear HH HG1 en0
      obtain ⟨n, i, rr, hn, rfl, rfl, HH, HLr, HCr, HG⟩ := hrel
      by_cases hlt : n < l.length
      · have hlr : n < rr.length := by rw [HH.out.len]; exact hlt
        have hx0 : wr.cell? ⟨g, n, none⟩ = some (.int .i64 l[n]) := by
          have h1 := (HLr.out.cell hlr).1
          have h2 := HH.out.rest n (Nat.le_refl _)
          rw [List.getElem?_eq_getElem hlr, List.getElem?_eq_getElem hlt] at h2
          rw [h1, Option.some.inj h2]
        have hil : i < rr.length := by have := HH.out.le; omega
        have hxi := HLr.out.cell hil
        have hpr := p_is.calls HCr.out l[n]
        have en : wrap64 ((n : Int) + 1) = ((n + 1 : Nat) : Int) := w64n (by have := HNL.out; omega)
        have ei : wrap64 ((i : Int) + 1) = ((i + 1 : Nat) : Int) := w64n (by have := HNL.out; have := HH.out.le; omega)
        have HLT := Aside0.mk hlt
        have HIL := Aside0.mk (show i < l.length from by have := HH.out.le; omega)
        obtain ⟨s, hs⟩ : ∃ s, s = l[n] := ⟨_, rfl⟩
        have HS := Aside0.mk hs
        rw [← hs] at hx0 hpr
        have HPR := Aside0.mk hpr
        have hilt := HIL.out
        have hy := hxi.1
        have hy' := hxi.2
        generalize rr[i] = ri at hy
        clear hs hpr hlr hxi
        go_wp2_with fail
        refine HPR.out.mono ?_
        rintro e w4 ⟨rfl, rfl⟩
        clear HPR hx0
        cases hst : stayI x s with
        | true =>
          have HS4 := Aside0.mk (HH.out.keep HLT.out (by rw [← HS.out]; exact hst))
          have HW4 := Aside0.mk (show Is (w4.setCell ⟨g, i, none⟩ (.int .i64 s)) F (.slice (some ⟨g, 0, none⟩) l.length cap) (rr.set i l[n]) ∧ w4.grownBy (w4.setCell ⟨g, i, none⟩ (.int .i64 s)) (some g) from by
            have h1 := HLr.out
            rw [← HH.out.len] at h1
            obtain ⟨k1, k2⟩ := h1.set i s
            rw [HH.out.len] at k1
            rw [← HS.out]
            exact ⟨k1, k2⟩)
          have HC5 := Aside0.mk (HCr.out.set_other HCG.out i (.int .i64 s) (g := g))
          go_wp2_with fail
          rw [en, ei]
          go_roundw
          case rel => exact ⟨n + 1, i + 1, _, HLT.out, rfl, rfl, HS4, ⟨HW4.out.1⟩, HC5, ⟨HG.out.trans HW4.out.2⟩⟩
          case measure => simp [intOf]; have := HLT.out; omega
        | false =>
          go_wp2_with fail
          rw [en]
          go_roundw
          case rel => exact ⟨n + 1, i, rr, HLT.out, rfl, rfl, ⟨HH.out.drop HLT.out (by rw [← HS.out]; exact hst)⟩, HLr, HCr, HG⟩
          case measure => simp [intOf]; have := HLT.out; omega
      · obtain rfl : n = l.length := by omega
        obtain ⟨i0, hi0, hz0, hz1, hz2⟩ := info_parts info3
        have hle := HH.out.le
        have hnm : cap ≠ i := by omega
        have hcut := cut_from 31 3 .i64 Try.underlying31 hi0 1 hz1 (some ⟨g, 0, none⟩) l.length cap (i : Int) (by omega) (by omega)
        have hcut2 := cut_to 31 3 .i64 Try.underlying31 hi0 (some ⟨g, 0, none⟩) l.length cap (i : Int) (by omega) (by omega) hcap
        simp only [Int.toNat_natCast, hnm, if_false, Option.map_some, Addr.add, Nat.mul_one, Nat.zero_add] at hcut hcut2
        have hclr := Go.Lib.run_clear_slice wr 31 3 0 (.int .i64 0) Try.underlying31 zero3 rfl rfl g i (l.length - i) (cap - i) (by omega) (fun j hj => by rw [(HLr.out.cell (j := i + j) (by rw [HH.out.len]; omega)).1]; rfl) (fun j hj => (HLr.out.cell (j := i + j) (by rw [HH.out.len]; omega)).2)
        have HCL := Aside0.mk (show ∃ rr', Is (wr.setCells g i (List.replicate (l.length - i) (.int .i64 0))) F (.slice (some ⟨g, 0, none⟩) l.length cap) rr' ∧ rr'.length = l.length ∧ rr'.take i = rr.take i ∧ wr.grownBy (wr.setCells g i (List.replicate (l.length - i) (.int .i64 0))) (some g) from by
          have h1 := HLr.out
          rw [← HH.out.len] at h1
          obtain ⟨rr', k1, k2, k3, k4⟩ := Is.clear (l.length - i) i h1 (by rw [HH.out.len]; omega)
          rw [HH.out.len] at k1 k2
          exact ⟨rr', k1, k2, k3, k4⟩)
        obtain ⟨W2, hW2⟩ : ∃ W2, W2 = wr.setCells g i (List.replicate (l.length - i) (.int .i64 0)) := ⟨_, rfl⟩
        rw [← hW2] at hclr HCL
        have HLE := Aside0.mk hle
        have hle2 : (i : Int) ≤ l.length := by omega
        clear hW2 hnm hi0 hz0 hz1 hz2
        rcases Nat.eq_zero_or_pos i with hi0 | hip
        · subst hi0
          simp only [Nat.sub_zero, Int.natCast_zero, Int.ofNat_zero] at hcut hcut2 hclr
          go_wp2_with fail
          go_ret
          obtain ⟨rr', k1, k2, k3, k4⟩ := HCL.out
          have hkf := HH.out.kept
          rw [List.take_length] at hkf
          have k5 := Kd.R_take k1 (k2.symm ▸ Nat.le_of_lt HLE.out)
          rw [k3, hkf] at k5
          exact ⟨_, rfl, k5, rfl, HG.out.trans k4⟩
        · have hip2 : ¬ ((i : Int) = 0) := by omega
          go_wp2_with fail
          go_ret
          obtain ⟨rr', k1, k2, k3, k4⟩ := HCL.out
          have hkf := HH.out.kept
          rw [List.take_length] at hkf
          have k5 := Kd.R_take k1 (k2.symm ▸ Nat.le_of_lt HLE.out)
          rw [k3, hkf] at k5
          exact ⟨_, rfl, k5, rfl, HG.out.trans k4⟩
theorem own_size {k : TypeId} {R : Value → Option (DataW Value × List MemPlace)} {m n n' : Nat} {D : DataW Value} {w : World} (h : w.ownsMap Try.prog k R m n D) (hn : Maps.size D ≤ n') : w.ownsMap Try.prog k R m n' D := by
  obtain ⟨es, cl, hb, F, _, rfl⟩ := h
  exact ⟨es, cl, hb, F, by simpa [Maps.size, length_sorted] using hn, rfl⟩
theorem Dq.tight {F : Nat → Prop} {X : Option ByteArray} {N p mk ma : Nat} {sv lv : ByteArray → Value} {Dk Da : DataW Value} {t : Int} {kn : KF} {qs : AF} {w : World} (h : Dq F X N p mk ma sv lv Dk Da t kn qs w) : Dq (fun i => F i ∧ i < w.heap.size) X N p mk ma sv lv Dk Da t kn qs w :=
  { h with lsA := fun k l hk hx => Kd.R_mono (Kd.R_bound (h.lsA k l hk hx)) fun i hi => ⟨hi.1, hi.2.2.1⟩, foot := ⟨⟨h.foot.1, h.pl.lt⟩, ⟨h.foot.2.1, h.ownK.lt⟩, ⟨h.foot.2.2, h.ownA.lt⟩⟩ }
def dropL (x : Int) : Option (List Int) → Option (List Int)
  | none => none
  | some l => if l.filter (stayI x) = [] then none else some (l.filter (stayI x))
/-- Who waits, behind a drop. -/
def dropQ (x : Int) (qs : AF) : AF := fun k => dropL x (qs k)
def dropN (x : Int) (qs : AF) (ks : List ByteArray) : AF := fun k => if inU ks k then dropL x (qs k) else qs k
theorem dropN_nil (x : Int) (qs : AF) : dropN x qs [] = qs := by
  funext k
  simp [dropN, inU]
theorem dropN_all {x : Int} {qs : AF} {ks : List ByteArray} (h : ∀ k, k ∈ ks ↔ (qs k).isSome = true) : dropN x qs ks = dropQ x qs := by
  funext k
  unfold dropN dropQ
  split
  · rfl
  · rename_i hn
    cases hq : qs k with
    | none => rfl
    | some l => exact absurd (inU_iff.2 ((h k).2 (by rw [hq]; rfl))) hn
theorem dropN_step {x : Int} {qs : AF} {ks : List ByteArray} {n : Nat} (hn : n < ks.length) : dropN x qs (ks.take (n + 1)) = upd (dropN x qs (ks.take n)) ks[n] (dropL x (qs ks[n])) := by
  funext k
  unfold dropN
  rw [inU_snoc ks hn]
  by_cases e : k = ks[n]
  · rw [e, upd_same]
    simp
  · rw [upd_other _ e]
    simp [e]
theorem dropN_fresh {x : Int} {qs : AF} {ks : List ByteArray} (hnd : ks.Nodup) {n : Nat} (hn : n < ks.length) : dropN x qs (ks.take n) ks[n] = qs ks[n] := by
  unfold dropN
  rw [if_neg fun h => by
    obtain ⟨i, hi, e⟩ := List.mem_take_iff_getElem.1 (inU_iff.1 h)
    exact (List.pairwise_iff_getElem.1 hnd) i n (by omega) hn (by omega) e]
theorem dropL_len (x : Int) (o : Option (List Int)) : ((dropL x o).getD []).length ≤ (o.getD []).length := by
  cases o with
  | none => exact Nat.le_refl _
  | some l =>
    have := List.length_filter_le (stayI x) l
    simp only [dropL]
    split
    · exact Nat.zero_le _
    · exact this
theorem Tot.drop {qs : AF} {n : Nat} (h : Tot qs n) (x : Int) : ∃ n', Tot (dropQ x qs) n' ∧ n' ≤ n := by
  obtain ⟨K, hn, hK, rfl⟩ := h
  refine ⟨_, ⟨K.filter (fun k => (dropQ x qs k).isSome), hn.filter _, fun k => ?_, rfl⟩, ?_⟩
  · rw [List.mem_filter, hK k]
    refine ⟨fun h => h.2, fun h => ⟨?_, h⟩⟩
    unfold dropQ at h
    cases hq : qs k with
    | none => rw [hq] at h; cases h
    | some l => rfl
  · refine Nat.le_trans (sumQ_filter _ _ K) ?_
    clear hn hK
    induction K with
    | nil => exact Nat.le_refl _
    | cons k r ih =>
      unfold sumQ at ih ⊢
      simp only [List.map_cons, List.sum_cons]
      have : lenQ (dropQ x qs) k ≤ lenQ qs k := by
        exact dropL_len x (qs k)
      omega
set_option maxHeartbeats 4000000 in
theorem p_Drop.calls {F : Nat → Prop} {N p n : Nat} {t : Int} {kn : KF} {qs : AF} {w : World} (h : DA F N p t kn qs w) (hn : Tot qs n) (hnN : n ≤ 1000000) (hN : N ≤ 100000) (x : Int) :
    Calls Try.prog 14 #[.pointer (some ⟨p, 0, none⟩), .int .i64 x] w fun e w' => ∃ n', e = .returned (.bool (decide (n' < n))) ∧ Tot (dropQ x qs) n' ∧ DA F N p t kn (dropQ x qs) w' ∧ Ku F w w' := by
  obtain ⟨mk, ma, sv, lv, Dk, Da, h⟩ := h
  have hb := below_alloc (Below.refl _ w) (.cells #[.int .i64 x] 3)
  have hc := Blk.At.new w #[.int .i64 x] 3
  have ht := h.tight.st (.of_below hb)
  obtain ⟨c, hce⟩ : ∃ c, c = w.heap.size := ⟨_, rfl⟩
  obtain ⟨W, hW⟩ : ∃ W, W = w.alloc (.cells #[.int .i64 x] 3) := ⟨_, rfl⟩
  rw [← hce] at hc ht
  rw [← hW] at hc ht hb
  have hok := p_ok.calls (.of ht)
  have hwt := p_waiting.calls (.of ht) hn hnN
  obtain ⟨n', hn', hle'⟩ := hn.drop x
  have HN := Aside0.mk (And.intro hn' hle')
  have HNN := Aside0.mk (And.intro hnN hN)
  have HC := Aside0.mk hc
  have HD := Aside0.mk ht
  have HK := Aside0.mk (Ku.of_below (F := F) hb)
  clear h hb hc ht hn hn' hle' hnN hN
  replace hce := hce.symm
  replace hW := hW.symm
  go_enter Try.func14, Try.ntmps14
  go_wp2_with fail
  refine hok.mono ?_
  rintro e w1 ⟨rfl, rfl⟩
  go_wp2_with fail
  refine hwt.mono ?_
  rintro e w2 ⟨rfl, hb2⟩
  have HD2 := Aside0.mk (HD.out.st (.of_below hb2))
  have HC2 := Aside0.mk (HC.out.below hb2 HC.out.lt)
  have HK2 := Aside0.mk (HK.out.trans' (.of_below hb2))
  have has := p_Asked.calls (.of HD2.out) HNN.out.2
  clear hb2 hok hwt HD HC HK hW
  go_wp2_with fail
  refine has.mono ?_
  rintro e w3 ⟨v3, ks, rfl, hL, hks, hb3⟩
  obtain ⟨A3, c3, rfl⟩ := Kd.R_slice hL
  have HL3 := Aside0.mk hL
  have HKS := Aside0.mk hks
  have HD3 := Aside0.mk (HD2.out.st (.of_below hb3))
  have HC3 := Aside0.mk (HC2.out.below hb3 HC2.out.lt)
  have HK3 := Aside0.mk (HK2.out.trans' (.of_below hb3))
  have HU3 := Aside0.mk (Ku.refl (fun i => F i ∧ i < c) w3)
  have HX3 := Aside0.mk (show dropN x qs (ks.take 0) = qs from dropN_nil x qs)
  clear hL hks hb3 has HD2 HC2 HK2
  go_wp2_with fail
  go_loopw [19] (fun j wr => ∃ (i : Nat) (lv' : ByteArray → Value) (Da' : DataW Value), i ≤ ks.length ∧ j = .int .i64 i ∧ Aside0 (Dq (fun i => F i ∧ i < c) none N p mk ma sv lv' Dk Da' t kn (dropN x qs (ks.take i)) wr) ∧ Aside0 (Blk.At c #[.int .i64 x] 3 wr) ∧ Aside0 (Ku (fun i => F i ∧ i < c) w3 wr)) (fun j _ => ks.length - (intOf j).toNat)
  case atStart => exact ⟨0, lv, Da, Nat.zero_le _, rfl, ⟨by rw [HX3.out]; exact HD3.out⟩, HC3, HU3⟩
  case round =>
    clear HD3 HC3 HU3 HX3
    obtain ⟨i, lv', Da', hi, rfl, HD, HC, HU⟩ := hrel
    by_cases hlt : i < ks.length
    · obtain ⟨ad, rfl, hcs⟩ := Kd.C_strings_cells (Ls.C (Ls.ku HL3.out HU.out)) (by omega)
      have hx0 : wr.cell? (ad.add i) = some (.string ks[i]) := hcs i _ (List.getElem?_eq_getElem hlt)
      have hmem : ks[i] ∈ ks := List.getElem_mem hlt
      have hsz := HKS.out.2.2.2 _ hmem
      have hfr := dropN_fresh (x := x) (qs := qs) HKS.out.1 hlt
      have hst := dropN_step (x := x) (qs := qs) hlt
      obtain ⟨l, hl⟩ := Option.isSome_iff_exists.1 ((HKS.out.2.1 _).1 hmem)
      rw [hl] at hfr hst
      generalize ks[i] = s at hx0 hsz hfr hst
      have HFR := Aside0.mk hfr
      have HST := Aside0.mk hst
      have HSZ := Aside0.mk hsz
      have hlk := HD.out.lookA0 hsz
      unfold rowV at hlk
      rw [hfr] at hlk
      have hI := HD.out.lsA s l hfr (by simp)
      obtain ⟨A, cap, hsl⟩ := Kd.R_slice hI
      have hlk2 : (Instr.lookup 48 (.map (some ma)) (.string s) false).run Try.prog wr = .ok (.slice A l.length cap) wr := by rw [← hsl]; exact hlk
      have hll := HD.out.few s l hfr
      have hob : (Value.slice A l.length cap).ownBlock = (lv' s).ownBlock := by rw [hsl]
      have HOB := Aside0.mk hob
      rw [hsl] at hI
      have hdf := i_DeleteFunc.calls hI HC.out (by have := HNN.out.2; omega) (fun e => by
        have := hI.1 c e
        omega)
      obtain ⟨lf, hlf⟩ : ∃ lf, lf = l.filter (stayI x) := ⟨_, rfl⟩
      rw [← hlf] at hdf
      have HLF := Aside0.mk hlf
      have HLFL := Aside0.mk (show lf.length ≤ N from by rw [hlf]; exact Nat.le_trans (List.length_filter_le _ _) hll)
      have HDF := Aside0.mk hdf
      clear hdf hlf
      have x2 : wr.cell? ⟨p, 2, none⟩ = some (.map (some ma)) := HD.out.pl.cell 2
      have HLT := Aside0.mk hlt
      have HLL := Aside0.mk hll
      have en : wrap64 ((i : Int) + 1) = ((i + 1 : Nat) : Int) := w64n (by have := HKS.out.2.2.1; have := HNN.out.2; omega)
      clear hcs hmem hsz hl hfr hst hlk hI hsl hll hob
      go_wp2_with fail
      refine HDF.out.mono ?_
      rintro e w4 ⟨v4, rfl, hI4, hob4, hg4⟩
      obtain ⟨A4, c4, rfl⟩ := Kd.R_slice hI4
      rw [HOB.out] at hob4 hg4
      have hT4 := HD.out.turn HFR.out hg4
      have hK4 : Ku (fun i => F i ∧ i < c) w3 w4 := HU.out.trans' (Ku.grown hg4 fun j hj => by
        obtain ⟨h1, _, _, _, _, cs, hc⟩ := HD.out.row HFR.out (by simp) hj
        exact .inr ⟨h1, _, hc, .inr rfl⟩)
      have hC4 : Blk.At c #[.int .i64 x] 3 w4 := (hg4.block c HC.out.lt (fun e => by
        have := (HD.out.row HFR.out (by simp) e.symm).1.2
        omega)).trans HC.out
      have hap := HD.out.apart (V := lv' s) (v1 := .slice A4 lf.length c4) (.inr ⟨HFR.out, rfl⟩) (.inl hob4)
      have hown := hT4.ownA
      have x24 : w4.cell? ⟨p, 2, none⟩ = some (.map (some ma)) := hT4.pl.cell 2
      have HT4 := Aside0.mk hT4
      have HK4 := Aside0.mk hK4
      have HC4 := Aside0.mk hC4
      have HI4 := Aside0.mk hI4
      have HAP := Aside0.mk hap
      clear hI4 hob4 hg4 hT4 hK4 hC4 hap HDF hlk2 x2 hx0
      by_cases hnil : lf = []
      · have hlen : ¬ (0 < (lf.length : Int)) := by rw [hnil]; simp
        have HDL := Aside0.mk (show dropL x (some l) = none from if_pos (HLF.out ▸ hnil))
        clear hnil
        go_wp2_with (at_delete; refine wpList_delete_own _ rfl _ _ 48 9 rfl 31 key9 Try.underlying48 RV ma N Da' rfl hown _ _ rfl (keyOf9 HSZ.out) ?_; intro w5 ho5 ht5; have HO5 := Aside0.mk ho5; have HT5 := Aside0.mk ht5; clear ho5 ht5)
        have hg5 := HT5.out.grown
        have hk5 : ∀ (j : Nat) (o : Obj), w4.heap[j]? = some o → j ≠ ma → w5.heap[j]? = some o := fun j o ho hne => (hg5.block j (Array.getElem?_eq_some_iff.1 ho).1 (fun e => hne (by cases e; rfl))).trans ho
        have hD5 := HT4.out.told HO5.out hk5
        have hC5 : Blk.At c #[.int .i64 x] 3 w5 := hk5 _ _ HC4.out (fun e => by
          obtain ⟨es, cl, hb⟩ := own_block HT4.out.ownA
          have h1 := HC4.out
          unfold Blk.At at h1
          rw [e, hb] at h1
          cases h1)
        have hK5 := HK4.out.trans' (Ku.grown (F := fun i => F i ∧ i < c) hg5 fun j hj => by cases hj; exact .inr ⟨HT4.out.foot.2.2, HT4.out.map_a⟩)
        rw [en]
        go_roundw
        case rel => exact ⟨i + 1, lv', _, HLT.out, rfl, ⟨by rw [HST.out, HDL.out]; exact hD5⟩, ⟨hC5⟩, ⟨hK5⟩⟩
        case measure => simp [intOf]; have := HLT.out; omega
      · have hlen : 0 < (lf.length : Int) := by
          have := List.length_pos_iff.2 hnil
          omega
        have HDL := Aside0.mk (show dropL x (some l) = some lf from by rw [HLF.out]; exact if_neg (HLF.out ▸ hnil))
        clear hnil
        go_wp2_with (at_mapUpdate; refine wpList_mapUpdate_own _ rfl _ _ _ 48 rfl 9 31 key9 Try.underlying48 RV ma N Da' rfl hown (by have := HNN.out.2; unfold maxLen; omega) _ _ _ rfl rfl (keyOf9 HSZ.out) (.held (.slice A4 lf.length c4)) [] rfl ?_; intro w5 ho5 hg5; have HO5 := Aside0.mk ho5; have HG5 := Aside0.mk hg5; clear ho5 hg5)
        have hg5 := HG5.out
        have hk5 : ∀ (j : Nat) (o : Obj), w4.heap[j]? = some o → j ≠ ma → w5.heap[j]? = some o := fun j o ho hne => (hg5.block j (Array.getElem?_eq_some_iff.1 ho).1 (fun e => hne (by cases e; rfl))).trans ho
        have hO5 := own_size (n' := N) HO5.out (by
          rw [Maps.size_put (HT4.out.ownA.tidy key9), HT4.out.hasA, HFR.out]
          exact HT4.out.ownA.size_le)
        have hI5 : Is w5 (fun i => F i ∧ i < c) (.slice A4 lf.length c4) lf := by
          refine Kd.R_mono (Kd.R_step (Kd.R_bound HI4.out) fun j hj hlt => ?_) fun j hj => hj.1
          obtain ⟨_, _, _, q, hq, cs, hc⟩ := hj
          obtain rfl : q = 3 := by simpa [Kd.int, Kd.scalar] using hq
          rw [hc]
          refine hk5 j _ hc fun e => ?_
          obtain ⟨es, cl, hb⟩ := own_block HT4.out.ownA
          rw [e, hb] at hc
          cases hc
        have hD5 := HT4.out.ask (Nat.le_refl N) HLFL.out hO5 hk5 hI5 HAP.out
        have hC5 : Blk.At c #[.int .i64 x] 3 w5 := hk5 _ _ HC4.out (fun e => by
          obtain ⟨es, cl, hb⟩ := own_block HT4.out.ownA
          have h1 := HC4.out
          unfold Blk.At at h1
          rw [e, hb] at h1
          cases h1)
        have hK5 := HK4.out.trans' (Ku.grown (F := fun i => F i ∧ i < c) hg5 fun j hj => by cases hj; exact .inr ⟨HT4.out.foot.2.2, HT4.out.map_a⟩)
        rw [en]
        go_roundw
        case rel => exact ⟨i + 1, _, _, HLT.out, rfl, ⟨by rw [HST.out, HDL.out]; exact hD5⟩, ⟨hC5⟩, ⟨hK5⟩⟩
        case measure => simp [intOf]; have := HLT.out; omega
    · obtain rfl : i = ks.length := by omega
      have hD := HD.out
      rw [List.take_length, dropN_all HKS.out.2.1] at hD
      have HDE := Aside0.mk (hD.mono (G := F) fun i hi => hi.1)
      have hwt := p_waiting.calls (.of HDE.out) HN.out.1 (Nat.le_trans HN.out.2 HNN.out.1)
      clear hD
      go_wp2_with fail
      refine hwt.mono ?_
      rintro e w5 ⟨rfl, hb5⟩
      have HE := Aside0.mk (And.intro (DA.below (.of HDE.out) hb5) ((HK3.out.trans' (HU.out.mono fun i hi => hi.1)).trans' (.of_below hb5)))
      clear hb5 hwt
      go_wp2_with fail
      go_ret
      exact ⟨n', by congr 2, HN.out.1, HE.out⟩
theorem p_Known.dead {v : Value} {w : World} (h : Dead v w) : Calls Try.prog 18 #[v] w fun e w' => e = .returned (.int .i64 0) ∧ w' = w := by
  have hk := p_ok.dead h
  clear h
  go_enter Try.func18, Try.ntmps18
  go_wp2_with fail
  refine hk.mono ?_
  rintro e w1 ⟨rfl, rfl⟩
  go_wp2_with fail
  go_ret
  exact ⟨rfl, rfl⟩
theorem p_Drop.dead {v : Value} {w : World} (h : Dead v w) (x : Int) : Calls Try.prog 14 #[v, .int .i64 x] w fun e w' => e = .returned (.bool false) ∧ Below w.heap.size w w' := by
  have hb := below_alloc (Below.refl _ w) (.cells #[.int .i64 x] 3)
  have hk := p_ok.dead (h.below hb)
  have HB := Aside0.mk hb
  clear h hb
  go_enter Try.func14, Try.ntmps14
  go_wp2_with fail
  refine hk.mono ?_
  rintro e w1 ⟨rfl, rfl⟩
  go_wp2_with fail
  go_ret
  exact ⟨rfl, HB.out⟩
/-! ### What is alive -/
def tS : ByteArray := ⟨#[116]⟩
def rdS : ByteArray := ⟨#[114, 101, 97, 100]⟩
def xS : ByteArray := ⟨#[120]⟩
theorem words_rd : wordsOf rdS = [rdS] := by kernel_rfl
def one (x : Tok) : KF := upd (fun _ => none) tS (some x)
theorem expd_none (t : Int) : expd t (fun _ => none) = fun _ => none := rfl
theorem expd_stay {t : Int} {x : Tok} (h : ¬ x.til ≤ t) : expd t (one x) = one x := by
  funext k
  unfold expd one
  by_cases e : k = tS
  · subst e; rw [upd_same]; simp [h]
  · rw [upd_other _ e]
theorem expd_go {t : Int} {x : Tok} (h : x.til ≤ t) : expd t (one x) = fun _ => none := by
  funext k
  unfold expd one
  by_cases e : k = tS
  · subst e; rw [upd_same]; simp [h]
  · rw [upd_other _ e]
theorem tok_rd : tokT 0 true rdS 60 = ⟨false, [rdS], 60⟩ := by
  unfold tokT
  rw [if_pos rfl, words_rd]
  rfl
theorem know_rd : knowT 0 (fun _ => none) tS ⟨false, [rdS], 60⟩ = one ⟨false, [rdS], 60⟩ := rfl
theorem tS_ne : ¬ tS = ⟨#[]⟩ := by decide
theorem tS_size : tS.size ≤ maxLen := by decide
theorem verd_none {sc : ByteArray} : verd (fun _ => none) tS sc = 4 := by
  unfold verd
  rw [if_neg tS_ne]
theorem verd_rd : verd (one ⟨false, [rdS], 60⟩) tS rdS = 1 := by
  unfold verd one
  rw [if_neg tS_ne, upd_same]
  decide
theorem verd_x : verd (one ⟨false, [rdS], 60⟩) tS xS = 3 := by
  unfold verd one
  rw [if_neg tS_ne, upd_same]
  decide
/-- A law's desk: M are the law's own blocks. -/
structure La (B : Nat) (M : Nat → Prop) (N p : Nat) (t : Int) (kn : KF) (qs : AF) (w0 w : World) : Prop where
  da : DA (fun i => B ≤ i ∧ ¬ M i) N p t kn qs w
  low : Below B w0 w
  size : B ≤ w.heap.size
  own : ∀ i, M i → i < w.heap.size
theorem La.next {B : Nat} {M : Nat → Prop} {N N' p : Nat} {t t' : Int} {kn kn' : KF} {qs qs' : AF} {w0 w w' : World} (h : La B M N p t kn qs w0 w) (hd : DA (Gr (fun i => B ≤ i ∧ ¬ M i) w) N' p t' kn' qs' w') (hk : Ku (fun i => B ≤ i ∧ ¬ M i) w w') : La B M N' p t' kn' qs' w0 w' :=
  ⟨hd.mono fun i hi => by
    rcases hi with hi | hi
    · exact hi
    · exact ⟨Nat.le_trans h.size hi, fun e => by have := h.own i e; omega⟩, h.low.trans (hk.below (fun i hi => hi.1) h.size), Nat.le_trans h.size hk.size, fun i hi => Nat.lt_of_lt_of_le (h.own i hi) hk.size⟩
theorem La.next0 {B : Nat} {M : Nat → Prop} {N N' p : Nat} {t t' : Int} {kn kn' : KF} {qs qs' : AF} {w0 w w' : World} (h : La B M N p t kn qs w0 w) (hd : DA (fun i => B ≤ i ∧ ¬ M i) N' p t' kn' qs' w') (hk : Ku (fun i => B ≤ i ∧ ¬ M i) w w') : La B M N' p t' kn' qs' w0 w' := h.next (hd.mono fun i hi => .inl hi) hk
theorem La.below {B : Nat} {M : Nat → Prop} {N p : Nat} {t : Int} {kn : KF} {qs : AF} {w0 w w' : World} (h : La B M N p t kn qs w0 w) (hb : Below w.heap.size w w') : La B M N p t kn qs w0 w' := h.next0 (h.da.below hb) (.of_below hb)
theorem La.new {w w' : World} {N p : Nat} {t : Int} {kn : KF} {qs : AF} (h : DA (fun i => w.heap.size ≤ i) N p t kn qs w') (hb : Below w.heap.size w w') : La w.heap.size (fun _ => False) N p t kn qs w w' :=
  ⟨h.mono fun i hi => ⟨hi, fun e => e⟩, hb, hb.size, fun i hi => hi.elim⟩
theorem Tot.one_ : Tot (fun _ => none) 0 := Tot.none_
set_option maxHeartbeats 4000000 in
theorem law_alive.calls (w : World) : Calls Try.prog 8 #[] w fun e w' => e = .returned (.bool true) ∧ Below w.heap.size w w' := by
  have hN := p_New.calls w 0
  obtain ⟨B, hBe⟩ : ∃ B, B = w.heap.size := ⟨_, rfl⟩
  have HBE := Aside0.mk hBe
  go_enter Try.func8, Try.ntmps8
  go_wp2_with fail
  refine hN.mono ?_
  rintro e w1 ⟨rfl, hP, hb⟩
  have hLa := La.new hP hb
  rw [← HBE.out] at hLa ⊢
  have hCk := p_Check2.calls hLa.da Tot.none_ (by decide) (by decide) (by decide) 0 tS_size rdS 1 (by rw [expd_none]; exact verd_none)
  have e1 : ltr 0 0 = 0 := by decide
  rw [e1, expd_none] at hCk
  have HCK := Aside0.mk hCk
  have HL1 := Aside0.mk hLa
  clear hP hb hLa hCk hN hBe
  go_wp2_with fail
  refine HCK.out.mono ?_
  rintro e w2 ⟨rfl, hA, hK⟩
  have HL2 := Aside0.mk (HL1.out.next hA hK)
  have hTl := p_Told1.calls HL2.out.da (by decide) 0 tS_size true (sc := rdS) (by decide) 60 (upd_same _ _ _) (by decide)
  rw [e1, expd_none, tok_rd, know_rd] at hTl
  have HTL := Aside0.mk hTl
  clear hA hK hTl HCK HL1
  go_wp2_with fail
  refine HTL.out.mono ?_
  rintro e w3 ⟨v3, rfl, hI, hA, hK⟩
  have HL3 := Aside0.mk (HL2.out.next0 hA hK)
  obtain ⟨A3, c3, rfl⟩ := Kd.R_slice hI
  obtain ⟨g, rfl⟩ := Is.head hI (by simp)
  have x0 : w3.cell? ⟨g, 0, none⟩ = some (.int .i64 1) := (hI.cell (j := 0) (by simp)).1
  have hV1 := p_Verdict.calls HL3.out.da 59 tS_size rdS
  have e2 : ltr 0 59 = 59 := by decide
  rw [e2, expd_stay (by decide), verd_rd] at hV1
  have HV1 := Aside0.mk hV1
  clear hI hA hK hV1 HTL HL2
  go_wp2_with fail
  refine HV1.out.mono ?_
  rintro e w4 ⟨rfl, hA, hK⟩
  have HL4 := Aside0.mk (HL3.out.next0 hA hK)
  have hV2 := p_Verdict.calls HL4.out.da 59 tS_size xS
  have e3 : ltr 59 59 = 59 := by decide
  rw [e3, expd_stay (by decide), verd_x] at hV2
  have HV2 := Aside0.mk hV2
  clear hA hK hV2 HV1 HL3 x0
  go_wp2_with fail
  refine HV2.out.mono ?_
  rintro e w5 ⟨rfl, hA, hK⟩
  have HL5 := Aside0.mk (HL4.out.next0 hA hK)
  have hV3 := p_Verdict.calls HL5.out.da 60 tS_size rdS
  have e4 : ltr 59 60 = 60 := by decide
  rw [e4, expd_go (by decide), verd_none] at hV3
  have HV3 := Aside0.mk hV3
  clear hA hK hV3 HV2 HL4
  go_wp2_with fail
  refine HV3.out.mono ?_
  rintro e w6 ⟨rfl, hA, hK⟩
  have HL6 := Aside0.mk (HL5.out.next0 hA hK)
  clear hA hK HV3 HL5
  go_wp2_with fail
  go_ret
  exact ⟨rfl, HBE.out ▸ HL6.out.low⟩
/-- One call of a script. -/
structure Ac where
  kind : Int
  later : Int
  tok : ByteArray
  sc : ByteArray
  good : Bool
  left : Int
  n : Int
def dT : Kd (Int × Int × ByteArray × ByteArray × Bool × Int × Int) := Kd.pair (Kd.int .u8) (Kd.pair (Kd.int .i64) (Kd.pair Kd.string (Kd.pair Kd.string (Kd.pair Kd.bool (Kd.pair (Kd.int .i64) (Kd.int .i64))))))
def dA : Kd Ac := Kd.iso dT (fun a => (a.kind, a.later, a.tok, a.sc, a.good, a.left, a.n))
abbrev av (a : Ac) : Array Value := #[.int .u8 a.kind, .int .i64 a.later, .string a.tok, .string a.sc, .bool a.good, .int .i64 a.left, .int .i64 a.n]
theorem dA_open {w : World} {a : Ac} {cs : List Value} (h : dA.K w a cs) : cs = (av a).toList := by
  obtain ⟨x0, y0, rfl, h0, x1, y1, rfl, h1, x2, y2, rfl, h2, x3, y3, rfl, h3, x4, y4, rfl, h4, x5, y5, rfl, h5, h6⟩ := h
  have e0 : x0 = [.int .u8 a.kind] := h0
  have e1 : x1 = [.int .i64 a.later] := h1
  have e2 : x2 = [.string a.tok] := h2
  have e3 : x3 = [.string a.sc] := h3
  have e4 : x4 = [.bool a.good] := h4
  have e5 : x5 = [.int .i64 a.left] := h5
  have e6 : y5 = [.int .i64 a.n] := h6
  subst e0 e1 e2 e3 e4 e5 e6
  rfl
def sh (n : Nat) : Nat := if 100 < n then 100 else n
theorem law_short.calls {A : Option Addr} {n c : Nat} (hc : n ≤ c) (w : World) :
    Calls Try.prog 9 #[.slice A n c] w fun e w' => e = .returned (.slice A (sh n) c) ∧ w' = w := by
  by_cases t : 100 < n
  · rw [show sh n = 100 from if_pos t]
    have t2 : 100 ≤ c := by omega
    go_enter Try.func9, Try.ntmps9
    go_wp2_with fail
    all_goals first | omega | skip
    go_ret
    exact ⟨rfl, rfl⟩
  · rw [show sh n = n from if_neg t]
    go_enter Try.func9, Try.ntmps9
    go_wp2_with fail
    all_goals first | omega | skip
    go_ret
    exact ⟨rfl, rfl⟩
theorem add7 (ad : Addr) (i j : Nat) : (ad.add (i * 7)).add j = ad.add (i * 7 + j) := by
  unfold Addr.add
  split <;> split <;> simp_all <;> omega
theorem script_at {w : World} {A : Option Addr} {n : Nat} {l : List Ac} (h : dA.C w A n l) {i : Nat} (hi : i < l.length) : ∃ ad, A = some ad ∧ ∀ j v, (av (l[i]'hi))[j]? = some v → w.cell? ((ad.add (i * 7)).add j) = some v := by
  obtain ⟨ad, hA, hc⟩ := h.2.2 (by have := h.1; omega)
  obtain ⟨cs, hl, hK, hcell⟩ := hc i _ (List.getElem?_eq_getElem hi)
  obtain rfl := dA_open hK
  refine ⟨ad, hA, fun j v hv => ?_⟩
  rw [add7]
  exact hcell j v (by simpa using hv)
def cl9 (k : ByteArray) : Int := if 9000 < (k.size : Int) then 9000 else k.size
theorem cl9_at (k : ByteArray) : 0 ≤ cl9 k ∧ cl9 k ≤ 9000 := by
  unfold cl9
  split <;> omega
/-- What is let in. -/
def Small (l : List Ac) : Prop := ∀ a ∈ l, cl9 a.tok + cl9 a.sc ≤ 9000
theorem far_add {t : Int} {n : Nat} {p q : Int} (hp : 0 ≤ p ∧ p ≤ 9000) (hq : 0 ≤ q ∧ q ≤ 9000) (h : 0 ≤ t ∧ t ≤ (n : Int) * 18000) (hn : n ≤ 100) : wrap64 (p + q) = p + q ∧ wrap64 (t + (p + q)) = t + (p + q) ∧ 0 ≤ t + (p + q) ∧ t + (p + q) ≤ ((n + 1 : Nat) : Int) * 18000 := by
  refine ⟨?_, ?_, by omega, by omega⟩ <;> unfold wrap64 <;> omega
set_option maxHeartbeats 4000000 in
theorem law_far.calls {w : World} {A : Option Addr} {c : Nat} {l : List Ac} (hC : dA.C w A l.length l) (hc : l.length ≤ c) :
    Calls Try.prog 7 #[.slice A l.length c] w fun e w' => ∃ b, e = .returned (.bool b) ∧ Below w.heap.size w w' ∧ (b = false → Small (l.take (sh l.length))) := by
  have HC := Aside0.mk hC
  have HS := Aside0.mk (law_short.calls (A := A) hc)
  obtain ⟨m, hm⟩ : ∃ m, m = sh l.length := ⟨_, rfl⟩
  have HM := Aside0.mk (show m ≤ l.length ∧ m ≤ 100 from by rw [hm]; unfold sh; split <;> omega)
  rw [← hm] at HS ⊢
  clear hC hc hm
  go_enter Try.func7, Try.ntmps7
  go_wp2_with fail
  refine (HS.out _).mono ?_
  rintro e w1 ⟨rfl, rfl⟩
  have HB0 := Aside0.mk (Below.refl w1.heap.size w1)
  go_wp2_with fail
  go_loopw [3, 9] (fun s j wr => ∃ (n : Nat) (t : Int), n ≤ m ∧ s = .int .i64 t ∧ j = .int .i64 n ∧ Aside0 (Below w1.heap.size w1 wr) ∧ Aside0 ((∀ a ∈ l.take n, cl9 a.tok + cl9 a.sc ≤ t) ∧ (0 ≤ t ∧ t ≤ (n : Int) * 18000))) (fun _ j _ => m - (intOf j).toNat)
  case atStart => exact ⟨0, 0, Nat.zero_le _, rfl, rfl, HB0, ⟨fun a ha => by simp at ha, by simp⟩⟩
  case round =>
    clear HB0
    obtain ⟨n, t0, hn, rfl, rfl, HB, HQ⟩ := hrel
    by_cases hlt : n < m
    · have hl : n < l.length := by have := HM.out; omega
      obtain ⟨ad, rfl, hx⟩ := script_at HC.out hl
      have HTK := Aside0.mk (List.take_succ_eq_append_getElem hl)
      generalize l[n] = a at hx HTK
      obtain ⟨X, hX⟩ : ∃ X, X = ad.add (n * 7) := ⟨_, rfl⟩
      have hXe : ad.add (n * 7) = X := hX.symm
      rw [hXe] at hx
      clear hX
      have hx0 : wr.cell? X = some (.int .u8 a.kind) := pw_cell_below HB.out (hx 0 _ rfl)
      have hx1 : wr.cell? ⟨X.block, X.off + 1, none⟩ = some (.int .i64 a.later) := pw_cell_below HB.out (hx 1 _ rfl)
      have hx2 : wr.cell? ⟨X.block, X.off + 2, none⟩ = some (.string a.tok) := pw_cell_below HB.out (hx 2 _ rfl)
      have hx3 : wr.cell? ⟨X.block, X.off + 3, none⟩ = some (.string a.sc) := pw_cell_below HB.out (hx 3 _ rfl)
      have hx4 : wr.cell? ⟨X.block, X.off + 4, none⟩ = some (.bool a.good) := pw_cell_below HB.out (hx 4 _ rfl)
      have hx5 : wr.cell? ⟨X.block, X.off + 5, none⟩ = some (.int .i64 a.left) := pw_cell_below HB.out (hx 5 _ rfl)
      have hx6 : wr.cell? ⟨X.block, X.off + 6, none⟩ = some (.int .i64 a.n) := pw_cell_below HB.out (hx 6 _ rfl)
      have en : wrap64 ((n : Int) + 1) = ((n + 1 : Nat) : Int) := w64n (by have := HM.out; omega)
      obtain ⟨e1, e2, h3⟩ := far_add (cl9_at a.tok) (cl9_at a.sc) HQ.out.2 (Nat.le_trans hn HM.out.2)
      have HT1 := Aside0.mk (And.intro h3 (And.intro (cl9_at a.tok) (cl9_at a.sc)))
      have hc1 : (if 9000 < (a.tok.size : Int) then 9000 else (a.tok.size : Int)) = cl9 a.tok := rfl
      have hc2 : (if 9000 < (a.sc.size : Int) then 9000 else (a.sc.size : Int)) = cl9 a.sc := rfl
      obtain ⟨p, hp⟩ : ∃ p, p = cl9 a.tok := ⟨_, rfl⟩
      obtain ⟨q, hq⟩ : ∃ q, q = cl9 a.sc := ⟨_, rfl⟩
      rw [← hp] at hc1 e1 e2 HT1
      rw [← hq] at hc2 e1 e2 HT1
      have HPQ := Aside0.mk (And.intro hp hq)
      have HBa := Aside0.mk (HB.out.alloc HB.out.size (.cells (av a) 29))
      have HLT := Aside0.mk hlt
      clear hx h3 hp hq
      go_wp2_with fail
      rw [en]
      go_roundw
      case rel =>
        refine ⟨n + 1, t0 + (p + q), HLT.out, by rw [e2], rfl, HBa, ⟨fun x hx => ?_, HT1.out.1⟩⟩
        rw [HTK.out] at hx
        rcases List.mem_append.1 hx with hx | hx
        · have := HQ.out.1 x hx
          have := HT1.out.2
          omega
        · rw [List.mem_singleton.1 hx, ← HPQ.out.1, ← HPQ.out.2]
          have := HQ.out.2
          omega
      case measure => simp [intOf]; have := HLT.out; omega
    · obtain rfl : n = m := by omega
      go_wp2_with fail
      go_ret
      refine ⟨_, rfl, HB.out, fun h a ha => ?_⟩
      have h1 := HQ.out.1 a ha
      have h2 := of_decide_eq_false h
      omega
/-! ### The law of what is good, plain -/
theorem tm5 {k : Int} (h : 0 ≤ k ∧ k < 256) : (Int.tmod k 5 = 0 ∨ Int.tmod k 5 = 1 ∨ Int.tmod k 5 = 2 ∨ Int.tmod k 5 = 3 ∨ Int.tmod k 5 = 4) := by
  have h1 := Int.tmod_nonneg 5 h.1
  have h2 := Int.tmod_lt_of_pos k (b := 5) (by decide)
  omega
theorem ltr_next {t now : Int} (h : t ≤ now) (hn : now ≤ 1099511627776) : ltr t now = now := by
  unfold ltr
  rw [if_pos hn]
  split <;> omega
def nowL (t later : Int) : Int := if 0 < later ∧ later < 100000 then t + later else t
theorem nowL_at (t later : Int) : t ≤ nowL t later ∧ nowL t later ≤ t + 100000 := by
  unfold nowL
  split <;> omega
theorem nowL_w {t : Int} (h : 0 ≤ t ∧ t ≤ 10000000) {later : Int} (h1 : 0 < later) (h2 : later < 100000) : wrap64 (t + later) = nowL t later := by
  unfold nowL
  rw [if_pos ⟨h1, h2⟩]
  unfold wrap64
  omega
theorem nowL_0 {t later : Int} (h : ¬ (0 < later ∧ later < 100000)) : nowL t later = t := if_neg h
/-- What is so of every desk of a law, behind i calls. -/
structure Inv (i N : Nat) (kn : KF) (qs : AF) : Prop where
  nN : N ≤ i
  tot : ∃ n, Tot qs n ∧ n ≤ i
  key : ∀ k l, qs k = some l → k ≠ ⟨#[]⟩ ∧ kn k = none
theorem expd_some {t : Int} {kn : KF} {k : ByteArray} {x : Tok} (h : expd t kn k = some x) : kn k = some x ∧ ¬ x.til ≤ t := by
  unfold expd at h
  cases hk : kn k with
  | none => rw [hk] at h; cases h
  | some y =>
    rw [hk] at h
    simp only at h
    split at h
    · cases h
    · rename_i hn
      cases h
      exact ⟨rfl, hn⟩
theorem expd_of_none {t : Int} {kn : KF} {k : ByteArray} (h : kn k = none) : expd t kn k = none := by
  unfold expd
  rw [h]
theorem Inv.up {i N : Nat} {kn : KF} {qs : AF} (h : Inv i N kn qs) : Inv (i + 1) N kn qs := by
  obtain ⟨n, h1, h2⟩ := h.tot
  exact ⟨by have := h.nN; omega, ⟨n, h1, by omega⟩, h.key⟩
theorem Inv.expd {i N : Nat} {kn : KF} {qs : AF} (h : Inv i N kn qs) (t : Int) : Inv i N (expd t kn) qs := ⟨h.nN, h.tot, fun k l hk => ⟨(h.key k l hk).1, expd_of_none (h.key k l hk).2⟩⟩
theorem Inv.check {i N : Nat} {kn : KF} {qs : AF} (h : Inv i N kn qs) {text sc : ByteArray} (hv : verd kn text sc = 4) (x : Int) : Inv (i + 1) (N + 1) kn (upd qs text (some ((qs text).getD [] ++ [x]))) := by
  obtain ⟨n, h1, h2⟩ := h.tot
  refine ⟨by have := h.nN; omega, ⟨_, (h1.set_ text (some ((qs text).getD [] ++ [x]))).1, ?_⟩, fun k l hk => ?_⟩
  · have := (h1.set_ text none).2
    show n - lenQ qs text + ((qs text).getD [] ++ [x]).length ≤ i + 1
    rw [List.length_append, List.length_singleton]
    unfold lenQ at this ⊢
    omega
  · by_cases e : k = text
    · subst e
      unfold verd at hv
      split at hv
      · cases hv
      · rename_i hne
        refine ⟨hne, ?_⟩
        cases hkn : kn k with
        | none => rfl
        | some x =>
          rw [hkn] at hv
          simp only at hv
          unfold vd at hv
          split at hv
          · cases hv
          · split at hv <;> cases hv
    · rw [upd_other _ e] at hk
      exact h.key k l hk
theorem Inv.told {i N : Nat} {kn : KF} {qs : AF} (h : Inv i N kn qs) (text : ByteArray) (t : Int) (x : Tok) : Inv (i + 1) (N + 1) (knowT t kn text x) (upd qs text none) := by
  obtain ⟨n, h1, h2⟩ := h.tot
  refine ⟨by have := h.nN; omega, ⟨_, (h1.set_ text none).1, by show n - _ + 0 ≤ _; omega⟩, fun k l hk => ?_⟩
  obtain ⟨hne, hk⟩ := upd_none hk
  refine ⟨(h.key k l hk).1, ?_⟩
  unfold knowT
  split
  · exact (h.key k l hk).2
  · rw [upd_other _ hne]
    exact (h.key k l hk).2
theorem Inv.drop {i N : Nat} {kn : KF} {qs : AF} (h : Inv i N kn qs) (x : Int) : Inv i N kn (dropQ x qs) := by
  obtain ⟨n, h1, h2⟩ := h.tot
  obtain ⟨n', h3, h4⟩ := h1.drop x
  refine ⟨h.nN, ⟨n', h3, by omega⟩, fun k l hk => ?_⟩
  unfold dropQ at hk
  cases hq : qs k with
  | none => rw [hq] at hk; cases hk
  | some l' => exact h.key k l' hq
/-- What is so of the token that is asked for. -/
def Okd (kn : KF) (tok sc : ByteArray) (til : Int) (may : Bool) : Prop := ∀ x, kn tok = some x → vd x sc = 1 → may = true ∧ x.til ≤ til
theorem Okd.expd {kn : KF} {tok sc : ByteArray} {til : Int} {may : Bool} (h : Okd kn tok sc til may) (t : Int) : Okd (expd t kn) tok sc til may := fun x hx hv => h x (expd_some hx).1 hv
theorem Okd.other {kn : KF} {tok sc : ByteArray} {til : Int} {may : Bool} (h : Okd kn tok sc til may) {k : ByteArray} (hk : k ≠ tok) (t : Int) (x : Tok) : Okd (knowT t kn k x) tok sc til may := fun y hy hv => by
  unfold knowT at hy
  split at hy
  · exact h y hy hv
  · rw [upd_other _ (fun e => hk e.symm)] at hy
    exact h y hy hv
def mayT (good : Bool) (ws sc : ByteArray) : Bool := good && (decide (sc = ⟨#[]⟩) || (inU (wordsOf ws) sc || inU (wordsOf ws) star))
theorem Okd.told {kn : KF} {tok sc : ByteArray} (hn : kn tok = none) (t : Int) (good : Bool) (ws : ByteArray) (left : Int) : Okd (knowT t kn tok (tokT t good ws left)) tok sc (t + keepL left) (mayT good ws sc) := fun y hy hv => by
  unfold knowT at hy
  split at hy
  · rw [hn] at hy; cases hy
  · rw [upd_same] at hy
    cases hy
    unfold tokT at hv ⊢
    cases good
    · simp only [Bool.false_eq_true, if_false] at hv
      unfold vd at hv
      cases hv
    · simp only [if_true] at hv ⊢
      refine ⟨?_, Int.le_refl _⟩
      unfold vd at hv
      rw [if_neg Bool.false_ne_true] at hv
      unfold mayT
      split at hv
      · rename_i h
        simp only [Bool.true_and, Bool.or_eq_true, decide_eq_true_eq]
        exact h
      · cases hv
theorem Okd.end_ {kn : KF} {tok sc : ByteArray} {til t : Int} {may : Bool} (h : Okd kn tok sc til may) (hv : verd (Q.expd t kn) tok sc = 1) : may = true ∧ t < til := by
  unfold verd at hv
  split at hv
  · cases hv
  · cases hk : Q.expd t kn tok with
    | none => rw [hk] at hv; cases hv
    | some x =>
      rw [hk] at hv
      obtain ⟨h1, h2⟩ := expd_some hk
      obtain ⟨h3, h4⟩ := h x h1 hv
      exact ⟨h3, by omega⟩
theorem sc_small {a : Ac} (h : cl9 a.tok + cl9 a.sc ≤ 9000) (hne : a.tok ≠ ⟨#[]⟩) : a.sc.size ≤ 100000 := by
  have h1 : 1 ≤ a.tok.size := by
    rcases Nat.eq_zero_or_pos a.tok.size with e | e
    · exact absurd (ByteArray.ext (Array.size_eq_zero_iff.1 e)) hne
    · exact e
  unfold cl9 at h
  split at h <;> split at h <;> omega
end Go.Proofs.Ytnakiheekkpfdaa.Q
