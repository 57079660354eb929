/- The law of what is cut, walked. No condition but those typed. -/
import Derived.Test.YtljlkpfiebcoeaaDoorHw4
namespace Go.Proofs.YtljlkpfiebcoeaaDoor.H
open Go.RowKit Go.Sort Go.Shelf Go.Proofs.YtljlkpfiebcoeaaDoor.Q Go.Proofs.YtljlkpfiebcoeaaDoorW.PrintWords Go.Proofs.YtljlkpfiebcoeaaDoorW.PrintLast Go.Proofs.YtljlkpfiebcoeaaDoorW.PrintMore
attribute [local go_sem] max2_int min2_int max_two min_two max_three min_three max_four min_four   -- for this text's walks alone
set_option linter.unusedVariables false
set_option linter.unusedSimpArgs false
set_option maxRecDepth 100000
/-! ### The law of what is cut (3) -/
theorem cut_place (a : Int) {n : Nat} (h : 0 < n) (hn : n ≤ 3000) : ∃ k : Nat, k < n ∧ Int.tmod (wrap64 (Int.tmod a n + n)) n = k := by
  have h1 := Int.tmod_lt_of_pos a (show (0 : Int) < n by omega)
  have h2 : -(n : Int) < Int.tmod a n := by
    have := Int.tmod_lt_of_pos (-a) (show (0 : Int) < n by omega)
    rw [Int.neg_tmod] at this
    omega
  generalize Int.tmod a n = x at h1 h2 ⊢
  have e : wrap64 (x + n) = x + n := by unfold wrap64; omega
  rw [e, Int.tmod_eq_emod_of_nonneg (by omega)]
  have h3 := Int.emod_nonneg (x + n) (show (n : Int) ≠ 0 by omega)
  have h4 := Int.emod_lt_of_pos (x + n) (show (0 : Int) < n by omega)
  exact ⟨((x + n) % n).toNat, by omega, by omega⟩
theorem pair_of {α β : Type} {x : α × β} {a : α} (h : x.1 = a) : ∃ q, x = (a, q) := ⟨x.2, by rw [← h]⟩
set_option maxHeartbeats 2000000 in
theorem law_Cut.calls {w : World} (hT : Tabs w) (b more : ByteArray) (a : Int) : Calls Tryd.prog 3 #[.string b, .int .i64 a, .string more] w fun e w' => e = .returned (.bool true) ∧ Below w.heap.size w w' := by
  by_cases hb : b.size ≤ 3000
  · by_cases hm : more.size ≤ 3000
    · have hp := p_ParseR.calls hT b (by omega)
      have hb' : decide ((b.size : Int) > 3000) = false := decide_eq_false (by omega)
      have hm' : decide ((more.size : Int) > 3000) = false := decide_eq_false (by omega)
      by_cases h0 : (parseR b).1 = 0
      · have hbz : b.size ≠ 0 := fun h => by
          obtain rfl : b = ⟨#[]⟩ := ByteArray.ext (Array.toList_inj.1 (List.eq_nil_of_length_eq_zero (by rw [data_len]; exact h)))
          rw [parse_nil] at h0
          cases h0
        have hbz' : ((b.size : Int) == 0) = false := beq_eq_false_iff_ne.2 (by omega)
        obtain ⟨k, hk, ek⟩ := cut_place a (n := b.size) (by omega) hb
        obtain ⟨q1, hq1⟩ : ∃ q, parseR (b.extract 0 k) = (4, q) := pair_of (cut_less (by omega) h0 hk)
        have HP1 := Aside0.mk (fun W (hT : Tabs W) => p_ParseR.calls hT (b.extract 0 k) (by rw [ByteArray.size_extract]; omega))
        have HP2 := Aside0.mk (fun W (hT : Tabs W) => p_ParseR.calls hT (b ++ more) (by rw [ByteArray.size_append]; omega))
        rw [hq1] at HP1
        have hg : (more.size = 0 ∧ ∃ q, parseR (b ++ more) = (0, q)) ∨ (more.size ≠ 0 ∧ ∃ q, parseR (b ++ more) = (3, q)) := by
          by_cases hz : more.size = 0
          · obtain rfl : more = ⟨#[]⟩ := ByteArray.ext (Array.toList_inj.1 (List.eq_nil_of_length_eq_zero (by rw [data_len]; exact hz)))
            have e : b ++ (⟨#[]⟩ : ByteArray) = b := ByteArray.append_empty
            rw [e]
            exact .inl ⟨rfl, pair_of h0⟩
          · exact .inr ⟨hz, pair_of (cut_past (by omega) h0 hz)⟩
        have HT := Aside0.mk hT
        have hbp : (0 : Int) < b.size := by omega
        have hbn : ¬ ((b.size : Int) = 0) := by omega
        have hkl : (k : Int) ≤ b.size := by omega
        have hml : (more.size : Int) + b.size ≤ 6000 := by omega
        obtain ⟨r, hr⟩ := pair_of h0
        rw [hr] at hp
        clear h0 hT hb hm hk hq1 hr
        go_enter Tryd.func3, Tryd.ntmps3
        go_wp2_with fail
        refine hp.mono ?_
        rintro e w2 ⟨Aq, cq, Af, cf, Am, cm, rfl, -, -, -, hb2⟩
        obtain ⟨W3, hW3⟩ : ∃ W, W = w2.alloc (.cells #[.string r.m, .string r.p, .slice Aq r.q.length cq, .slice Af r.f.length cf, .string r.b, .slice Am r.v.length cm] 26) := ⟨_, rfl⟩
        have HB3 := Aside0.mk (hW3 ▸ below_alloc hb2 _ : Below w.heap.size w W3)
        have hp1 := HP1.out W3 (HT.out.below HB3.out)
        replace hW3 := hW3.symm
        clear hb2 hp
        go_wp2_with fail
        refine hp1.mono ?_
        rintro e w3 ⟨Aq3, cq3, Af3, cf3, Am3, cm3, rfl, -, -, -, hb3⟩
        obtain ⟨W4, hW4⟩ : ∃ W, W = w3.alloc (.cells #[.string q1.m, .string q1.p, .slice Aq3 q1.q.length cq3, .slice Af3 q1.f.length cf3, .string q1.b, .slice Am3 q1.v.length cm3] 26) := ⟨_, rfl⟩
        have HB4 := Aside0.mk (below_step HB3.out (hW4 ▸ below_alloc hb3 _ : Below _ _ W4))
        have hp2 := HP2.out W4 (HT.out.below HB4.out)
        replace hW4 := hW4.symm
        clear hb3 hp1
        rcases hg with ⟨hz, q2, hq2⟩ | ⟨hz, q2, hq2⟩
        · rw [hq2] at hp2
          have he : more.toList.isEmpty = true := by rw [emp_eq, hz]; rfl
          clear hq2 hz
          go_wp2_with fail
          refine hp2.mono ?_
          rintro e w4 ⟨Aq4, cq4, Af4, cf4, Am4, cm4, rfl, -, -, -, hb4⟩
          obtain ⟨W5, hW5⟩ : ∃ W, W = w4.alloc (.cells #[.string q2.m, .string q2.p, .slice Aq4 q2.q.length cq4, .slice Af4 q2.f.length cf4, .string q2.b, .slice Am4 q2.v.length cm4] 26) := ⟨_, rfl⟩
          have HB5 := Aside0.mk (below_step HB4.out (hW5 ▸ below_alloc hb4 _ : Below _ _ W5))
          have hal := p_alive.calls (HT.out.below HB5.out)
          replace hW5 := hW5.symm
          clear hb4 hp2
          go_wp2_with fail
          refine hal.mono ?_
          rintro e w6 ⟨rfl, hb6⟩
          have HB6 := Aside0.mk (below_step HB5.out hb6)
          clear hb6 hal
          go_wp2_with fail
          go_ret
          exact ⟨rfl, HB6.out⟩
        · rw [hq2] at hp2
          have he : more.toList.isEmpty = false := by rw [emp_eq]; exact decide_eq_false hz
          clear hq2 hz
          go_wp2_with fail
          refine hp2.mono ?_
          rintro e w4 ⟨Aq4, cq4, Af4, cf4, Am4, cm4, rfl, -, -, -, hb4⟩
          obtain ⟨W5, hW5⟩ : ∃ W, W = w4.alloc (.cells #[.string q2.m, .string q2.p, .slice Aq4 q2.q.length cq4, .slice Af4 q2.f.length cf4, .string q2.b, .slice Am4 q2.v.length cm4] 26) := ⟨_, rfl⟩
          have HB5 := Aside0.mk (below_step HB4.out (hW5 ▸ below_alloc hb4 _ : Below _ _ W5))
          have hal := p_alive.calls (HT.out.below HB5.out)
          replace hW5 := hW5.symm
          clear hb4 hp2
          go_wp2_with fail
          refine hal.mono ?_
          rintro e w6 ⟨rfl, hb6⟩
          have HB6 := Aside0.mk (below_step HB5.out hb6)
          clear hb6 hal
          go_wp2_with fail
          go_ret
          exact ⟨rfl, HB6.out⟩
      · obtain ⟨n, hn0⟩ : ∃ n, (parseR b).1 = n := ⟨_, rfl⟩
        obtain ⟨r, hr⟩ := pair_of hn0
        clear hn0
        rw [hr] at hp h0
        have hn : (n == 0) = false := beq_eq_false_iff_ne.2 h0
        have hn' : (n != 0) = true := by rw [bne, hn]; rfl
        have HT := Aside0.mk hT
        clear h0 hT hb hm hr
        go_enter Tryd.func3, Tryd.ntmps3
        go_wp2_with fail
        refine hp.mono ?_
        rintro e w2 ⟨Aq, cq, Af, cf, Am, cm, rfl, -, -, -, hb2⟩
        obtain ⟨W3, hW3⟩ : ∃ W, W = w2.alloc (.cells #[.string r.m, .string r.p, .slice Aq r.q.length cq, .slice Af r.f.length cf, .string r.b, .slice Am r.v.length cm] 26) := ⟨_, rfl⟩
        have HB3 := Aside0.mk (hW3 ▸ below_alloc hb2 _ : Below w.heap.size w W3)
        have hal := p_alive.calls (HT.out.below HB3.out)
        replace hW3 := hW3.symm
        clear hb2 hp
        go_wp2_with fail
        refine hal.mono ?_
        rintro e w6 ⟨rfl, hb6⟩
        have HB6 := Aside0.mk (below_step HB3.out hb6)
        clear hb6 hal
        go_wp2_with fail
        go_ret
        exact ⟨rfl, HB6.out⟩
    · have hm' : decide ((more.size : Int) > 3000) = true := decide_eq_true (by omega)
      have hb' : decide ((b.size : Int) > 3000) = false := decide_eq_false (by omega)
      have h1 := p_alive.calls hT
      clear hb hm
      go_enter Tryd.func3, Tryd.ntmps3
      go_wp2_with fail
      refine h1.mono ?_
      rintro e w1 ⟨rfl, hb1⟩
      go_wp2_with fail
      go_ret
      exact ⟨rfl, hb1⟩
  · have hb' : decide ((b.size : Int) > 3000) = true := decide_eq_true (by omega)
    have h1 := p_alive.calls hT
    clear hb
    go_enter Tryd.func3, Tryd.ntmps3
    go_wp2_with fail
    refine h1.mono ?_
    rintro e w1 ⟨rfl, hb1⟩
    go_wp2_with fail
    go_ret
    exact ⟨rfl, hb1⟩
end Go.Proofs.YtljlkpfiebcoeaaDoor.H
