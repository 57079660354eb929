/- The sort of a plan's list, whole; what a call does. No condition but those typed. -/
import Derived.Test.YtomkjakffpomdaaSw12
namespace Go.Proofs.Ytomkjakffpomdaa.Q
open Go.RowKit Go.Maps Go.Sort Go.Shelf Go.Proofs.YtomkjakffpomdaaW.PrintWords Go.Proofs.YtomkjakffpomdaaW.PrintLast Go.Proofs.YtomkjakffpomdaaW.PrintMore
attribute [local go_sem] max2_int min2_int max_two min_two max_three min_three max_four min_four   -- for this text's walks alone
set_option linter.unusedVariables false
set_option linter.unusedSimpArgs false
set_option maxRecDepth 100000
theorem pq_at {a b n : Nat} (hab : a ≤ b) (hb : b ≤ n) (hn : n ≤ 49) : ∃ hi : Nat, b = a + hi ∧ wrap64 ((b : Int) - (a : Int)) = (hi : Int) := ⟨b - a, by omega, wsub (by omega) (by omega)⟩
theorem pq_ab {a b hi n : Nat} (hab : b = a + hi) (hb : b ≤ n) : a ≤ n := by omega
theorem pq_12 {hi : Nat} (h : ¬ hi ≤ 12) : ¬ ((hi : Int) ≤ 12) ∧ 8 ≤ hi ∧ 1 ≤ hi := by omega
theorem pq_12' {hi : Nat} (h : hi ≤ 12) : (hi : Int) ≤ 12 := by omega
theorem pq_rev {a b p n : Nat} (h1 : a ≤ p) (h2 : p < b) (hb : b ≤ n) (hn : n ≤ 49) : ∃ z d p' : Nat, wrap64 ((b : Int) - 1) = (z : Int) ∧ wrap64 ((p : Int) - (a : Int)) = (d : Int) ∧ wrap64 ((z : Int) - (d : Int)) = (p' : Int) ∧ a ≤ p' ∧ p' < b :=
  ⟨b - 1, p - a, b - 1 - (p - a), wsub1' (by omega) (by omega), wsub (by omega) (by omega), wsub (by omega) (by omega), by omega, by omega⟩
theorem pq_pred' {a n b hi : Nat} (ha : 0 < a) (h1 : 1 ≤ hi) (hab : b = a + hi) (hb : b ≤ n) (hn : n ≤ 49) : ∃ q : Nat, wrap64 ((a : Int) - 1) = (q : Int) ∧ q < n := ⟨a - 1, wsub1' (by omega) (by omega), by omega⟩
theorem pq_mid {a b m n : Nat} (h1 : a ≤ m) (h2 : m < b) (hb : b ≤ n) (hn : n ≤ 49) : ∃ ll rl : Nat, wrap64 ((m : Int) - (a : Int)) = (ll : Int) ∧ wrap64 ((b : Int) - (m : Int)) = (rl : Int) ∧ wrap64 ((m : Int) + 1) = ((m + 1 : Nat) : Int) :=
  ⟨m - a, b - m, wsub (by omega) (by omega), wsub (by omega) (by omega), w64n (by omega)⟩
theorem pq_mid2 {a b m n k : Nat} (h1 : a ≤ m) (h2 : m < b) (hb : b ≤ n) (hk : b - a ≤ k) : (a ≤ m ∧ m ≤ n ∧ m - a < k) ∧ (m + 1 ≤ b ∧ b ≤ n ∧ b - (m + 1) < k) := by omega
theorem pq_meas {a b a' b' : Nat} {A B A' B' : Value} (hA : A = .int .i64 (a : Int)) (hB : B = .int .i64 (b : Int)) (hA' : A' = .int .i64 (a' : Int)) (hB' : B' = .int .i64 (b' : Int)) (h : b' - a' < b - a) : (intOf B').toNat - (intOf A').toNat < (intOf B).toNat - (intOf A).toNat := by
  subst hA hB hA' hB'
  simp [intOf]
  omega
theorem pq_eqm {a b m n k : Nat} (h1 : a + 1 ≤ m) (h2 : m ≤ b) (hk : b - a ≤ k) : b - m < b - a ∧ b - m ≤ k := by omega
theorem pq_ml {a b m k : Nat} (h1 : a ≤ m) (h2 : m < b) (hk : b - a ≤ k) : (b - (m + 1) < b - a ∧ b - (m + 1) ≤ k) ∧ (m - a < b - a ∧ m - a ≤ k) := by omega
set_option maxHeartbeats 8000000 in
theorem s_pdq.calls (C : Cx) : ∀ (k : Nat) {a b : Nat} {l : Int} {w : World}, a ≤ b → b ≤ C.ss.length → b - a ≤ k → RS C w → Calls Try.prog 35 #[C.row, .int .i64 a, .int .i64 b, .int .i64 l, C.cmp] w fun e w' => e = .returned (.tuple #[]) ∧ RS C w' := by
  intro k
  induction k using Nat.strongRecOn with
  | ind k ih =>
  intro a b l w hab hb hk h
  have HIH := Aside0.mk (fun (a b : Nat) (l : Int) (w : World) (hx : a ≤ b ∧ b ≤ C.ss.length ∧ b - a < k) (hr : RS C w) => ih (b - a) hx.2.2 (l := l) (w := w) hx.1 hx.2.1 (Nat.le_refl _) hr)
  have HSM := Aside0.mk C.small
  have H0 := Aside0.mk (show a ≤ b ∧ b ≤ C.ss.length ∧ b - a ≤ k from ⟨hab, hb, hk⟩)
  have HR0 := Aside0.mk h
  clear ih hab hb hk h
  go_enter Try.func35, Try.ntmps35
  go_wp2_with fail
  go_loopw [1, 2, 3, 10, 11] (fun va vb vl vx vy wr => ∃ (a b : Nat) (l : Int) (x y : Bool), (a ≤ b ∧ b ≤ C.ss.length ∧ b - a ≤ k) ∧ va = .int .i64 (a : Int) ∧ vb = .int .i64 (b : Int) ∧ vl = .int .i64 l ∧ vx = .bool x ∧ vy = .bool y ∧ Aside0 (RS C wr)) (fun va vb _ _ _ _ => (intOf vb).toNat - (intOf va).toNat)
  case atStart => exact ⟨a, b, l, true, true, H0.out, rfl, rfl, rfl, rfl, rfl, HR0⟩
  case round =>
    clear H0 HR0
    obtain ⟨a, b, l, xb, yb, h0, rfl, rfl, rfl, rfl, rfl, HR⟩ := hrel
    have H0 := Aside0.mk h0
    obtain ⟨hi, hab, ehi⟩ := pq_at h0.1 h0.2.1 HSM.out
    have HAB := Aside0.mk hab
    have HB := Aside0.mk h0.2.1
    clear h0 hab
    by_cases h12 : hi ≤ 12
    · have h12' := pq_12' h12
      go_wp2_with fail
      refine (s_insertion.calls C (pq_ab HAB.out HB.out) HB.out HR.out).mono ?_
      rintro e w1 ⟨rfl, hr⟩
      have HR1 := Aside0.mk hr
      clear hr HR
      go_wp2_with fail
      refine bodyPost_ret (results_none rfl _ _ _) rfl ?_
      exact ⟨rfl, HR1.out⟩
    · obtain ⟨h12', h8, h1⟩ := pq_12 h12
      have H8 := Aside0.mk h8
      have H1 := Aside0.mk h1
      clear h12 h8 h1
      by_cases hl : l = 0
      · subst hl
        go_wp2_with fail
        refine (s_heapSort.calls C HAB.out HB.out HR.out).mono ?_
        rintro e w1 ⟨rfl, hr⟩
        have HR1 := Aside0.mk hr
        clear hr HR
        go_wp2_with fail
        refine bodyPost_ret (results_none rfl _ _ _) rfl ?_
        exact ⟨rfl, HR1.out⟩
      · have hl0 : (l == 0) = false := by simp [hl]
        clear hl
        go_upto_if 39 with fail
        simp only [ehi]
        clear ehi
        go_cut [3] (fun v wc => ∃ l' : Int, v = .int .i64 l' ∧ Aside0 (RS C wc))
        case first =>
          cases xb
          · go_wp2_with fail
            refine (s_break.calls C HAB.out H8.out HB.out HR.out).mono ?_
            rintro e w1 ⟨rfl, hr⟩
            have HR1 := Aside0.mk hr
            clear hr HR
            go_wp2_with fail
            go_meet
            case rel => exact ⟨_, rfl, HR1⟩
          · go_wp2_with fail
            go_meet
            case rel => exact ⟨_, rfl, HR⟩
        case rest =>
        as_aux_lemma =>
        clear HR hl0
        obtain ⟨l2, rfl, HR⟩ := hcut
        go_upto_region 10 with fail
        go_cut [13, 14] (fun v x wc => ∃ (p : Nat) (q : Int), (a ≤ p ∧ p < b) ∧ v = .int .i64 (p : Int) ∧ x = .int .i64 q ∧ Aside0 (RS C wc))
        case first =>
          go_wp2_with fail
          refine (s_choosePivot.calls C HAB.out H8.out HB.out HR.out).mono ?_
          rintro e w1 ⟨p, q, rfl, hp, _, hr⟩
          have HR1 := Aside0.mk hr
          have HP := Aside0.mk hp
          clear hr HR hp
          go_wp2_with fail
          go_meet
          case rel => exact ⟨p, q, HP.out, rfl, rfl, HR1⟩
        case rest =>
        as_aux_lemma =>
        clear HR
        obtain ⟨p, q, hp, rfl, rfl, HR⟩ := hcut
        have HP := Aside0.mk hp
        clear hp
        go_upto_if 56 with fail
        go_cut [13, 14] (fun v x wc => ∃ (p : Nat) (q : Int), (a ≤ p ∧ p < b) ∧ v = .int .i64 (p : Int) ∧ x = .int .i64 q ∧ Aside0 (RS C wc))
        case first =>
          by_cases hq : q = 2
          · subst hq
            obtain ⟨z, d, p', e1, e2, e3, h1, h2⟩ := pq_rev HP.out.1 HP.out.2 HB.out HSM.out
            have HP2 := Aside0.mk (And.intro h1 h2)
            clear h1 h2
            go_wp2_with fail
            refine (s_reverse.calls C HB.out HR.out).mono ?_
            rintro e w1 ⟨rfl, hr⟩
            have HR1 := Aside0.mk hr
            clear hr HR
            go_wp2_with fail
            go_meet
            case rel => exact ⟨p', 1, HP2.out, by first | rfl | simp only [e1, e2, e3], rfl, HR1⟩
          · have hq2 : (q == 2) = false := by simp [hq]
            clear hq
            go_wp2_with fail
            go_meet
            case rel => exact ⟨p, q, HP.out, rfl, rfl, HR⟩
        case rest =>
        as_aux_lemma =>
        clear HR HP
        obtain ⟨p, q, hp, rfl, rfl, HR⟩ := hcut
        have HP := Aside0.mk hp
        clear hp
        go_upto_region 15 with fail
        go_cut [75] (fun v wc => ∃ t : Bool, v = .bool t ∧ Aside0 (RS C wc))
        case first =>
          generalize hgb : (q == 1) = qb
          cases xb
          · go_wp2_with fail
            go_meet
            case rel => exact ⟨_, rfl, HR⟩
          · cases yb
            · go_wp2_with fail
              go_meet
              case rel => exact ⟨_, rfl, HR⟩
            · cases qb
              · go_wp2_with fail
                go_meet
                case rel => exact ⟨_, rfl, HR⟩
              · go_wp2_with fail
                go_meet
                case rel => exact ⟨_, rfl, HR⟩
        case rest =>
        as_aux_lemma =>
        clear HR
        obtain ⟨t, rfl, HR⟩ := hcut
        go_upto_if 75 with fail
        go_cut [] (fun wc => Aside0 (RS C wc))
        case first =>
          cases t
          · go_wp2_with fail
            go_meet
            case rel => exact HR
          · go_wp2_with fail
            refine (s_partial.calls C HAB.out H1.out HB.out HR.out).mono ?_
            rintro e w1 ⟨t2, rfl, hr⟩
            have HR1 := Aside0.mk hr
            clear hr HR
            cases t2
            · go_wp2_with fail
              go_meet
              case rel => exact HR1
            · go_wp2_with fail
              refine bodyPost_ret (results_none rfl _ _ _) rfl ?_
              exact ⟨rfl, HR1.out⟩
        case rest =>
        as_aux_lemma =>
        clear HR
        have HR := hcut
        clear hcut
        go_upto_region 17 with fail
        go_cut [97] (fun v wc => ∃ t : Bool, v = .bool t ∧ Aside0 (RS C wc))
        case first =>
          by_cases ha : 0 < a
          · obtain ⟨u, eu, hul⟩ := pq_pred' ha H1.out HAB.out HB.out HSM.out
            have hpl : p < C.ss.length := Nat.lt_of_lt_of_le HP.out.2 HB.out
            have hd : decide (0 < a) = true := decide_eq_true ha
            obtain ⟨x, y, hx, hy, hfx, hfy, hc, _, _, _⟩ := HR.out.two hul hpl
            have HC := Aside0.mk hc
            clear hc
            go_wp2_with fail
            refine start_ (n := 17) (S := fun w' => w'.cell? ⟨C.g, u, none⟩ = some (.string x) ∧ w'.cell? ⟨C.g, p, none⟩ = some (.string y)) (ds := [13]) #[false, false, false, false, false, false, false, false, false, false, false, false, false, false, false, false, false] (by kernel_rfl) rfl rfl ⟨hx, hy⟩ (fun hHeld => ?_)
            refine pure_ (i := 0) (N := some 81) (v := ?_) (a' := ?_) #[true, false, false, false, false, false, false, false, false, false, false, false, false, false, false, false, false] rfl rfl (by kernel_rfl) (fun _ _ _ h => h) (Or.inl ⟨by rfl, ?_⟩) ?_ ?_
            rotate_left
            · intro w'
              go_simp
              with_reducible rfl
            rotate_left
            · simp only [Act.put, List.setIfInBounds_toArray, List.set_cons_zero, List.set_cons_succ, i64_w, i32_w]
              rfl
            refine pure_ (i := 1) (N := some 82) (v := ?_) (a' := ?_) #[true, true, false, false, false, false, false, false, false, false, false, false, false, false, false, false, false] rfl rfl (by kernel_rfl) (fun _ _ _ h => h) (Or.inl ⟨by rfl, ?_⟩) ?_ ?_
            rotate_left
            · intro w'
              go_simp
              with_reducible rfl
            rotate_left
            · simp only [Act.put, List.setIfInBounds_toArray, List.set_cons_zero, List.set_cons_succ, i64_w, i32_w]
              rfl
            refine pure_ (i := 2) (N := some 83) (v := ?_) (a' := ?_) #[true, true, true, false, false, false, false, false, false, false, false, false, false, false, false, false, false] rfl rfl (by kernel_rfl) (fun _ _ _ h => h) (Or.inl ⟨by rfl, ?_⟩) ?_ ?_
            rotate_left
            · intro w'
              go_simp
              with_reducible rfl
            rotate_left
            · simp only [Act.put, List.setIfInBounds_toArray, List.set_cons_zero, List.set_cons_succ, i64_w, i32_w]
              rfl
            refine pure_ (i := 3) (N := some 84) (v := ?_) (a' := ?_) #[true, true, true, true, false, false, false, false, false, false, false, false, false, false, false, false, false] rfl rfl (by kernel_rfl) (fun _ _ _ h => h) (Or.inl ⟨by rfl, ?_⟩) ?_ ?_
            rotate_left
            · intro w'
              go_simp
              with_reducible rfl
            rotate_left
            · simp only [Act.put, List.setIfInBounds_toArray, List.set_cons_zero, List.set_cons_succ, i64_w, i32_w]
              rfl
            refine pure_ (i := 4) (N := some 85) (v := ?_) (a' := ?_) #[true, true, true, true, true, false, false, false, false, false, false, false, false, false, false, false, false] rfl rfl (by kernel_rfl) (fun _ _ _ h => h) (Or.inl ⟨by rfl, ?_⟩) ?_ ?_
            rotate_left
            · intro w'
              go_simp
              with_reducible rfl
            rotate_left
            · simp only [Act.put, List.setIfInBounds_toArray, List.set_cons_zero, List.set_cons_succ, i64_w, i32_w]
              rfl
            refine pure_ (i := 5) (N := some 86) (v := ?_) (a' := ?_) #[true, true, true, true, true, true, false, false, false, false, false, false, false, false, false, false, false] rfl rfl (by kernel_rfl) (fun _ _ _ h => h) (Or.inl ⟨by rfl, ?_⟩) ?_ ?_
            rotate_left
            · intro w'
              go_simp
              with_reducible rfl
            rotate_left
            · simp only [Act.put, List.setIfInBounds_toArray, List.set_cons_zero, List.set_cons_succ, i64_w, i32_w]
              rfl
            refine pure_ (i := 6) (N := some 87) (v := ?_) (a' := ?_) #[true, true, true, true, true, true, true, false, false, false, false, false, false, false, false, false, false] rfl rfl (by kernel_rfl) (fun _ _ _ h => h) (Or.inl ⟨by rfl, ?_⟩) ?_ ?_
            rotate_left
            · intro w'
              go_simp
              with_reducible rfl
            rotate_left
            · simp only [Act.put, List.setIfInBounds_toArray, List.set_cons_zero, List.set_cons_succ, i64_w, i32_w]
              rfl
            refine pure_ (i := 7) (N := some 88) (v := ?_) (a' := ?_) #[true, true, true, true, true, true, true, true, false, false, false, false, false, false, false, false, false] rfl rfl (by kernel_rfl) (fun _ _ _ h => h) (Or.inl ⟨by rfl, ?_⟩) ?_ ?_
            rotate_left
            · intro w'
              go_simp
              with_reducible rfl
            rotate_left
            · simp only [Act.put, List.setIfInBounds_toArray, List.set_cons_zero, List.set_cons_succ, i64_w, i32_w]
              rfl
            refine pure_ (i := 9) (N := some 90) (v := ?_) (a' := ?_) #[true, true, true, true, true, true, true, true, false, true, false, false, false, false, false, false, false] rfl rfl (by kernel_rfl) (fun _ _ _ h => h) (Or.inl ⟨by rfl, ?_⟩) ?_ ?_
            rotate_left
            · intro w'
              go_simp
              with_reducible rfl
            rotate_left
            · simp only [Act.put, List.setIfInBounds_toArray, List.set_cons_zero, List.set_cons_succ, i64_w, i32_w]
              rfl
            refine pure_ (i := 10) (N := some 91) (v := ?_) (a' := ?_) #[true, true, true, true, true, true, true, true, false, true, true, false, false, false, false, false, false] rfl rfl (by kernel_rfl) (fun _ _ _ h => h) (Or.inl ⟨by rfl, ?_⟩) ?_ ?_
            rotate_left
            · intro w'
              go_simp
              with_reducible rfl
            rotate_left
            · simp only [Act.put, List.setIfInBounds_toArray, List.set_cons_zero, List.set_cons_succ, i64_w, i32_w]
              rfl
            refine pure_ (i := 11) (N := some 92) (v := ?_) (a' := ?_) #[true, true, true, true, true, true, true, true, false, true, true, true, false, false, false, false, false] rfl rfl (by kernel_rfl) (fun _ _ _ h => h) (Or.inl ⟨by rfl, ?_⟩) ?_ ?_
            rotate_left
            · intro w'
              go_simp
              with_reducible rfl
            rotate_left
            · simp only [Act.put, List.setIfInBounds_toArray, List.set_cons_zero, List.set_cons_succ, i64_w, i32_w]
              rfl
            refine take_ (i := 8) (N := some 89) (v := ?_) (a' := ?_) #[true, true, true, true, true, true, true, true, true, true, true, true, false, false, false, false, false] rfl rfl (by kernel_rfl) (fun _ _ _ h => h) (Or.inl ⟨by rfl, ?_⟩) hHeld ?_ ?_
            rotate_left
            · rintro w' ⟨s0, s1⟩
              go_simp
              with_reducible rfl
            rotate_left
            · simp only [Act.put, List.setIfInBounds_toArray, List.set_cons_zero, List.set_cons_succ, i64_w, i32_w]
              rfl
            refine take_ (i := 12) (N := some 93) (v := ?_) (a' := ?_) #[true, true, true, true, true, true, true, true, true, true, true, true, true, false, false, false, false] rfl rfl (by kernel_rfl) (fun _ _ _ h => h) (Or.inl ⟨by rfl, ?_⟩) hHeld ?_ ?_
            rotate_left
            · rintro w' ⟨s0, s1⟩
              go_simp
              with_reducible rfl
            rotate_left
            · simp only [Act.put, List.setIfInBounds_toArray, List.set_cons_zero, List.set_cons_succ, i64_w, i32_w]
              rfl
            refine last_ (i := 13) (N := some 94) #[true, true, true, true, true, true, true, true, true, true, true, true, true, true, false, false, false] rfl rfl (by kernel_rfl) (by decide) (fun K hK => ?_)
            refine goesB_ Try.func28 (by kernel_rfl) rfl #[.pointer (some ⟨C.p, 0, none⟩)] #[.pointer (some ⟨C.p, 0, none⟩), .string x, .string y] (by rfl) rfl rfl rfl (by simp only [List.map_toArray, List.map_cons, List.map_nil]; rfl) ?_
            with_reducible refine (HC.out _ (below_drew (Below.refl _ _))).mono ?_
            rintro e wc ⟨cc, rfl, hb_⟩
            refine ⟨_, rfl, ?_⟩
            refine hK.out _ _ ?_
            clear hK K
            refine norm_ (a' := ?_) ?_ ?_
            rotate_left
            · show Act.put _ (some 94) _ = _
              simp only [Act.put, List.setIfInBounds_toArray, List.set_cons_zero, List.set_cons_succ, i64_w, i32_w]
              rfl
            refine pure_ (i := 14) (N := some 95) (v := ?_) (a' := ?_) #[true, true, true, true, true, true, true, true, true, true, true, true, true, true, true, false, false] rfl rfl (by kernel_rfl) (fun _ _ _ h => h) (Or.inl ⟨by rfl, ?_⟩) ?_ ?_
            rotate_left
            · intro w'
              go_simp
              with_reducible rfl
            rotate_left
            · simp only [Act.put, List.setIfInBounds_toArray, List.set_cons_zero, List.set_cons_succ, i64_w, i32_w]
              rfl
            refine pure_ (i := 15) (N := some 96) (v := ?_) (a' := ?_) #[true, true, true, true, true, true, true, true, true, true, true, true, true, true, true, true, false] rfl rfl (by kernel_rfl) (fun _ _ _ h => h) (Or.inl ⟨by rfl, ?_⟩) ?_ ?_
            rotate_left
            · intro w'
              go_simp
              with_reducible rfl
            rotate_left
            · simp only [Act.put, List.setIfInBounds_toArray, List.set_cons_zero, List.set_cons_succ, i64_w, i32_w]
              rfl
            refine pure_ (i := 16) (N := some 97) (v := ?_) (a' := ?_) #[true, true, true, true, true, true, true, true, true, true, true, true, true, true, true, true, true] rfl rfl (by kernel_rfl) (fun _ _ _ h => h) (Or.inl ⟨by rfl, ?_⟩) ?_ ?_
            rotate_left
            · intro w'
              go_simp
              with_reducible rfl
            rotate_left
            · simp only [Act.put, List.setIfInBounds_toArray, List.set_cons_zero, List.set_cons_succ, i64_w, i32_w]
              rfl
            refine done_ (by kernel_rfl) ?_
            have HR2 := Aside0.mk (HR.out.drew.below hb_)
            clear hHeld hx hy hfx hfy HC hb_ HR
            go_wp2_with fail
            go_meet
            case rel => exact ⟨_, rfl, HR2⟩
          · have hd : decide (0 < a) = false := decide_eq_false ha
            go_wp2_with fail
            refine start_ (n := 17) (S := fun w' => True) (ds := []) #[false, false, false, false, false, false, false, false, false, false, false, false, false, false, false, false, false] (by kernel_rfl) rfl rfl trivial (fun hHeld => ?_)
            refine pure_ (i := 0) (N := some 81) (v := ?_) (a' := ?_) #[true, false, false, false, false, false, false, false, false, false, false, false, false, false, false, false, false] rfl rfl (by kernel_rfl) (fun _ _ _ h => h) (Or.inl ⟨by rfl, ?_⟩) ?_ ?_
            rotate_left
            · intro w'
              go_simp
              with_reducible rfl
            rotate_left
            · simp only [Act.put, List.setIfInBounds_toArray, List.set_cons_zero, List.set_cons_succ, i64_w, i32_w]
              rfl
            refine pure_ (i := 1) (N := some 82) (v := ?_) (a' := ?_) #[true, true, false, false, false, false, false, false, false, false, false, false, false, false, false, false, false] rfl rfl (by kernel_rfl) (fun _ _ _ h => h) (Or.inl ⟨by rfl, ?_⟩) ?_ ?_
            rotate_left
            · intro w'
              go_simp
              with_reducible rfl
            rotate_left
            · simp only [Act.put, List.setIfInBounds_toArray, List.set_cons_zero, List.set_cons_succ, i64_w, i32_w]
              rfl
            refine pure_ (i := 2) (N := some 83) (v := ?_) (a' := ?_) #[true, true, true, false, false, false, false, false, false, false, false, false, false, false, false, false, false] rfl rfl (by kernel_rfl) (fun _ _ _ h => h) (Or.inl ⟨by rfl, ?_⟩) ?_ ?_
            rotate_left
            · intro w'
              go_simp
              with_reducible rfl
            rotate_left
            · simp only [Act.put, List.setIfInBounds_toArray, List.set_cons_zero, List.set_cons_succ, i64_w, i32_w]
              rfl
            refine pure_ (i := 3) (N := some 84) (v := undef) (a' := ?_) #[true, true, true, true, false, false, false, false, false, false, false, false, false, false, false, false, false] rfl rfl (by kernel_rfl) (fun _ _ _ h => h) (Or.inr ⟨by rfl, rfl⟩) ?_ ?_
            rotate_left
            · simp only [Act.put, List.setIfInBounds_toArray, List.set_cons_zero, List.set_cons_succ, i64_w, i32_w]
              rfl
            refine pure_ (i := 4) (N := some 85) (v := undef) (a' := ?_) #[true, true, true, true, true, false, false, false, false, false, false, false, false, false, false, false, false] rfl rfl (by kernel_rfl) (fun _ _ _ h => h) (Or.inr ⟨by rfl, rfl⟩) ?_ ?_
            rotate_left
            · simp only [Act.put, List.setIfInBounds_toArray, List.set_cons_zero, List.set_cons_succ, i64_w, i32_w]
              rfl
            refine pure_ (i := 5) (N := some 86) (v := undef) (a' := ?_) #[true, true, true, true, true, true, false, false, false, false, false, false, false, false, false, false, false] rfl rfl (by kernel_rfl) (fun _ _ _ h => h) (Or.inr ⟨by rfl, rfl⟩) ?_ ?_
            rotate_left
            · simp only [Act.put, List.setIfInBounds_toArray, List.set_cons_zero, List.set_cons_succ, i64_w, i32_w]
              rfl
            refine pure_ (i := 6) (N := some 87) (v := undef) (a' := ?_) #[true, true, true, true, true, true, true, false, false, false, false, false, false, false, false, false, false] rfl rfl (by kernel_rfl) (fun _ _ _ h => h) (Or.inr ⟨by rfl, rfl⟩) ?_ ?_
            rotate_left
            · simp only [Act.put, List.setIfInBounds_toArray, List.set_cons_zero, List.set_cons_succ, i64_w, i32_w]
              rfl
            refine pure_ (i := 7) (N := some 88) (v := undef) (a' := ?_) #[true, true, true, true, true, true, true, true, false, false, false, false, false, false, false, false, false] rfl rfl (by kernel_rfl) (fun _ _ _ h => h) (Or.inr ⟨by rfl, rfl⟩) ?_ ?_
            rotate_left
            · simp only [Act.put, List.setIfInBounds_toArray, List.set_cons_zero, List.set_cons_succ, i64_w, i32_w]
              rfl
            refine pure_ (i := 8) (N := some 89) (v := undef) (a' := ?_) #[true, true, true, true, true, true, true, true, true, false, false, false, false, false, false, false, false] rfl rfl (by kernel_rfl) (fun _ _ _ h => h) (Or.inr ⟨by rfl, rfl⟩) ?_ ?_
            rotate_left
            · simp only [Act.put, List.setIfInBounds_toArray, List.set_cons_zero, List.set_cons_succ, i64_w, i32_w]
              rfl
            refine pure_ (i := 9) (N := some 90) (v := undef) (a' := ?_) #[true, true, true, true, true, true, true, true, true, true, false, false, false, false, false, false, false] rfl rfl (by kernel_rfl) (fun _ _ _ h => h) (Or.inr ⟨by rfl, rfl⟩) ?_ ?_
            rotate_left
            · simp only [Act.put, List.setIfInBounds_toArray, List.set_cons_zero, List.set_cons_succ, i64_w, i32_w]
              rfl
            refine pure_ (i := 10) (N := some 91) (v := undef) (a' := ?_) #[true, true, true, true, true, true, true, true, true, true, true, false, false, false, false, false, false] rfl rfl (by kernel_rfl) (fun _ _ _ h => h) (Or.inr ⟨by rfl, rfl⟩) ?_ ?_
            rotate_left
            · simp only [Act.put, List.setIfInBounds_toArray, List.set_cons_zero, List.set_cons_succ, i64_w, i32_w]
              rfl
            refine pure_ (i := 11) (N := some 92) (v := undef) (a' := ?_) #[true, true, true, true, true, true, true, true, true, true, true, true, false, false, false, false, false] rfl rfl (by kernel_rfl) (fun _ _ _ h => h) (Or.inr ⟨by rfl, rfl⟩) ?_ ?_
            rotate_left
            · simp only [Act.put, List.setIfInBounds_toArray, List.set_cons_zero, List.set_cons_succ, i64_w, i32_w]
              rfl
            refine pure_ (i := 12) (N := some 93) (v := undef) (a' := ?_) #[true, true, true, true, true, true, true, true, true, true, true, true, true, false, false, false, false] rfl rfl (by kernel_rfl) (fun _ _ _ h => h) (Or.inr ⟨by rfl, rfl⟩) ?_ ?_
            rotate_left
            · simp only [Act.put, List.setIfInBounds_toArray, List.set_cons_zero, List.set_cons_succ, i64_w, i32_w]
              rfl
            refine pure_ (i := 13) (N := some 94) (v := undef) (a' := ?_) #[true, true, true, true, true, true, true, true, true, true, true, true, true, true, false, false, false] rfl rfl (by kernel_rfl) (fun _ _ _ h => h) (Or.inr ⟨by rfl, rfl⟩) ?_ ?_
            rotate_left
            · simp only [Act.put, List.setIfInBounds_toArray, List.set_cons_zero, List.set_cons_succ, i64_w, i32_w]
              rfl
            refine pure_ (i := 14) (N := some 95) (v := undef) (a' := ?_) #[true, true, true, true, true, true, true, true, true, true, true, true, true, true, true, false, false] rfl rfl (by kernel_rfl) (fun _ _ _ h => h) (Or.inr ⟨by rfl, rfl⟩) ?_ ?_
            rotate_left
            · simp only [Act.put, List.setIfInBounds_toArray, List.set_cons_zero, List.set_cons_succ, i64_w, i32_w]
              rfl
            refine pure_ (i := 15) (N := some 96) (v := undef) (a' := ?_) #[true, true, true, true, true, true, true, true, true, true, true, true, true, true, true, true, false] rfl rfl (by kernel_rfl) (fun _ _ _ h => h) (Or.inr ⟨by rfl, rfl⟩) ?_ ?_
            rotate_left
            · simp only [Act.put, List.setIfInBounds_toArray, List.set_cons_zero, List.set_cons_succ, i64_w, i32_w]
              rfl
            refine pure_ (i := 16) (N := some 97) (v := ?_) (a' := ?_) #[true, true, true, true, true, true, true, true, true, true, true, true, true, true, true, true, true] rfl rfl (by kernel_rfl) (fun _ _ _ h => h) (Or.inl ⟨by rfl, ?_⟩) ?_ ?_
            rotate_left
            · intro w'
              go_simp
              with_reducible rfl
            rotate_left
            · simp only [Act.put, List.setIfInBounds_toArray, List.set_cons_zero, List.set_cons_succ, i64_w, i32_w]
              rfl
            refine done_ (by kernel_rfl) ?_
            have HR2 := Aside0.mk HR.out.drew
            clear HR
            go_wp2_with fail
            go_meet
            case rel => exact ⟨_, rfl, HR2⟩
        case rest =>
        as_aux_lemma =>
        clear HR
        obtain ⟨t, rfl, HR⟩ := hcut
        cases t
        rotate_left
        · go_wp2_with fail
          refine (s_parteq.calls C HAB.out H1.out HB.out HP.out.2 HR.out).mono ?_
          rintro e w1 ⟨m, rfl, hm1, hm2, hr⟩
          have HR1 := Aside0.mk hr
          have HM := Aside0.mk (And.intro hm1 hm2)
          clear hr HR hm1 hm2
          go_wp2_with fail
          go_roundw
          case rel => exact ⟨m, b, _, _, _, ⟨HM.out.2, HB.out, (pq_eqm (n := 0) HM.out.1 HM.out.2 H0.out.2.2).2⟩, rfl, rfl, rfl, rfl, rfl, HR1⟩
          case measure => exact pq_meas rfl rfl rfl rfl (pq_eqm (n := 0) HM.out.1 HM.out.2 H0.out.2.2).1
        · go_wp2_with fail
          refine (s_part.calls C HAB.out H1.out HB.out HP.out.2 HR.out).mono ?_
          rintro e w1 ⟨m, t, rfl, hm1, hm2, hr⟩
          have HR1 := Aside0.mk hr
          have HM := Aside0.mk (And.intro hm1 hm2)
          obtain ⟨ll, rl, e1, e2, e3⟩ := pq_mid hm1 hm2 HB.out HSM.out
          have HQ := Aside0.mk (pq_mid2 hm1 hm2 HB.out H0.out.2.2)
          have HML := Aside0.mk (pq_ml hm1 hm2 H0.out.2.2)
          clear hr HR hm1 hm2
          by_cases hll : ll < rl
          · go_wp2_with fail
            refine (HIH.out a m _ _ HQ.out.1 HR1.out).mono ?_
            rintro e w2 ⟨rfl, hr⟩
            have HR2 := Aside0.mk hr
            clear hr HR1
            go_wp2_with fail
            go_roundw
            case rel => exact ⟨m + 1, b, _, _, _, ⟨HQ.out.2.1, HB.out, HML.out.1.2⟩, by first | rfl | rw [e3], rfl, rfl, rfl, rfl, HR2⟩
            case measure => exact pq_meas rfl rfl (by first | rfl | rw [e3]) rfl HML.out.1.1
          · go_wp2_with fail
            rw [e3]
            refine (HIH.out (m + 1) b _ _ HQ.out.2 HR1.out).mono ?_
            rintro e w2 ⟨rfl, hr⟩
            have HR2 := Aside0.mk hr
            clear hr HR1
            go_wp2_with fail
            go_roundw
            case rel => exact ⟨a, m, _, _, _, ⟨HQ.out.1.1, HQ.out.1.2.1, HML.out.2.2⟩, rfl, rfl, rfl, rfl, rfl, HR2⟩
            case measure => exact pq_meas rfl rfl rfl rfl HML.out.2.1
theorem cv49 {n : Nat} (h : n ≤ 49) : IntKind.u64.wrap (n : Int) = (n : Int) := by
  simp [IntKind.wrap, IntKind.bits, IntKind.signed]
  omega
set_option maxHeartbeats 4000000 in
/-- Up to 49 are sorted. -/
theorem sort49 {B N p m c base : Nat} {t : Int} {f : PF} {w : World} (h : Tk B N p m c t f w) {v : Value} {ss : List ByteArray} (hL : Ls base w v ss) (hK : Known f ss) (hn : ss.length ≤ 49) : SortOK B N p m c t f base w v ss := by
  by_cases h1 : ss.length ≤ 1
  · exact sort1 h hL h1
  obtain ⟨A, cap, rfl⟩ := Kd.R_slice hL
  have ho := Kd.own_of_R hL
  rcases ho.2 with ⟨e1, _⟩ | ⟨g, cap', cur, e1, hb, hh, hc, _⟩
  · exfalso
    injection e1 with _ e2 _
    omega
  injection e1 with e1 _ e3
  subst e1
  obtain ⟨C, hC⟩ : ∃ C : Cx, C = ⟨B, N, p, m, c, t, f, base, g, cap, ss, w, hK, hn, hb⟩ := ⟨_, rfl⟩
  have HRS := Aside0.mk (show RS C w by rw [hC]; exact ⟨⟨ss, hL, List.Perm.refl _⟩, h, ⟨rfl, rfl, rfl, Nat.le_refl _, fun _ _ _ => rfl⟩⟩)
  have HE := Aside0.mk (show ∀ w', RS C w' → ∃ ss', ss'.Perm ss ∧ Ls base w' (.slice (some ⟨g, 0, none⟩) ss.length cap) ss' ∧ Tk B N p m c t f w' ∧ ∃ row, w.grownBy w' row ∧ ∀ j, row = some j → base ≤ j by
    rw [hC]
    rintro w' ⟨⟨rr, h1, h2⟩, h3, h4⟩
    exact ⟨rr, h2, h1, h3, some g, h4, fun j hj => by cases hj; exact hb⟩)
  have hcv := cv49 hn
  have hbl := Try.bits_Len (ss.length : Int) w (by omega) (by omega)
  have HP := Aside0.mk (show ∀ (l : Int), Calls Try.prog 35 #[.slice (some ⟨g, 0, none⟩) ss.length cap, .int .i64 0, .int .i64 (ss.length : Int), .int .i64 l, .func (.func 28) #[.pointer (some ⟨p, 0, none⟩)] #[]] w fun e w' => e = .returned (.tuple #[]) ∧ RS C w' by
    intro l
    have := s_pdq.calls C ss.length (a := 0) (b := ss.length) (l := l) (w := w) (Nat.zero_le _) (by rw [hC]; exact Nat.le_refl _) (Nat.sub_le _ _) HRS.out
    rw [show C.row = Value.slice (some ⟨g, 0, none⟩) ss.length cap by rw [hC], show C.cmp = Value.func (.func 28) #[.pointer (some ⟨p, 0, none⟩)] #[] by rw [hC]] at this
    exact this)
  unfold SortOK
  clear hC h hL hK hn h1 ho e3 hb hh hc
  go_enter Try.func27, Try.ntmps27
  go_wp2_with fail
  refine hbl.mono ?_
  rintro e w1 ⟨rfl, rfl⟩
  clear hbl
  go_wp2_with fail
  refine (HP.out _).mono ?_
  rintro e w1 ⟨rfl, hr⟩
  have HR := Aside0.mk hr
  clear hr
  go_wp2_with fail
  go_end0
  exact ⟨rfl, HE.out _ HR.out⟩
theorem inU_iff {us : List ByteArray} {k : ByteArray} : inU us k = true ↔ k ∈ us := by
  simp [inU]
set_option maxHeartbeats 2000000 in
theorem a_Has.calls {A : Option Addr} {c : Nat} {ss : List ByteArray} {w : World} (h : Kd.string.C w A ss.length ss) (s : ByteArray) :
    Calls Try.prog 18 #[.slice A ss.length c, .string s] w fun e w' => e = .returned (.bool (inU ss s)) ∧ w' = w := by
  have H := Aside0.mk h
  clear h
  go_enter Try.func18, Try.ntmps18
  go_wp2_with fail
  go_loopw [5] (fun j wr => ∃ n : Nat, n ≤ ss.length ∧ j = .int .i64 n ∧ Aside0 (inU (ss.take n) s = false) ∧ Aside0 (wr = w)) (fun j _ => ss.length - (intOf j).toNat)
  case atStart => exact ⟨0, Nat.zero_le _, rfl, ⟨by simp [inU]⟩, ⟨rfl⟩⟩
  case round =>
    obtain ⟨n, hn, rfl, HI, HW⟩ := hrel
    by_cases hlt : n < ss.length
    · obtain ⟨ad, rfl, hcs⟩ := Kd.C_strings_cells H.out (by omega)
      have hx0 : wr.cell? (ad.add n) = some (.string ss[n]) := by rw [HW.out]; exact hcs n _ (List.getElem?_eq_getElem hlt)
      have en : wrap64 ((n : Int) + 1) = ((n + 1 : Nat) : Int) := w64n (by have := H.out.2.1; omega)
      have HN := Aside0.mk (inU_snoc ss hlt)
      have HM := Aside0.mk (show ss[n] = s → inU ss s = true from fun e => inU_iff.2 (e ▸ List.getElem_mem hlt))
      generalize ss[n] = x at hx0 HN HM
      have HLT := Aside0.mk hlt
      clear hcs
      by_cases hxs : x = s
      · subst hxs
        have hr := HM.out rfl
        have HR := Aside0.mk hr
        clear hr HN HM
        go_wp2_with fail
        go_ret
        exact ⟨by rw [HR.out]; rfl, HW.out⟩
      · have hb : (x.toList == s.toList) = false := by
          rw [ByteArray.toList_eq, ByteArray.toList_eq, beq_eq_false_iff_ne]
          exact fun e => hxs (ByteArray.ext (Array.toList_inj.1 e))
        have HNE := Aside0.mk (show inU (ss.take (n + 1)) s = false by
          rw [HN.out]
          show (decide (s = x) || inU (ss.take n) s) = false
          rw [HI.out]
          simp
          exact fun e => hxs e.symm)
        clear HM HN
        go_wp2_with fail
        rw [en]
        exact ⟨⟨n + 1, HLT.out, rfl, HNE, HW⟩, by simp [intOf]; omega⟩
    · obtain rfl : n = ss.length := by omega
      go_wp2_with fail
      go_ret
      rw [List.take_length] at HI
      exact ⟨by rw [HI.out]; rfl, HW.out⟩
/-! ### The law's invariants, plain -/
theorem ltr_next {t now : Int} (h : t ≤ now) (hn : now ≤ 1099511627776) : ltr t now = now := by
  unfold ltr
  rw [if_pos hn]
  split <;> omega
/-- What is so behind i calls. -/
structure Tn (i : Nat) (t : Int) (f : PF) : Prop where
  t0 : 0 ≤ t ∧ t ≤ (i : Int) * 100000
  fe : ∀ k x, f k = some x → x.out ≤ t ∧ 0 ≤ x.fails ∧ x.fails ≤ (i : Int) ∧ x.due ≤ 1099511627776
  ls : ∃ L : List ByteArray, L.length ≤ 40 ∧ ∀ k x, f k = some x → k ∈ L
theorem dnF_due (t : Int) (ok : Bool) (x : Fd) : (dnF t ok x).due ≤ 1099511627776 := by
  show capT _ ≤ _
  unfold capT
  split <;> omega
theorem Tn.up {i : Nat} {t t' : Int} {f : PF} (h : Tn i t f) (ht : t ≤ t' ∧ t' ≤ t + 100000) : Tn (i + 1) t' f :=
  ⟨by have := h.t0; omega, fun k x hx => by have := h.fe k x hx; omega, h.ls⟩
theorem Tn.dn {i : Nat} {t t' : Int} {f : PF} (h : Tn i t f) (ht : t ≤ t' ∧ t' ≤ t + 100000) (ok : Bool) {x : Fd} (hx : 0 ≤ x.fails ∧ x.fails ≤ (i : Int)) : (dnF t' ok x).out ≤ t' ∧ 0 ≤ (dnF t' ok x).fails ∧ (dnF t' ok x).fails ≤ ((i + 1 : Nat) : Int) ∧ (dnF t' ok x).due ≤ 1099511627776 := by
  have h0 := h.t0
  refine ⟨?_, ?_, ?_, dnF_due _ _ _⟩
  · show (-1 : Int) ≤ t'
    omega
  · show 0 ≤ (if ok then (0 : Int) else x.fails + 1)
    split <;> omega
  · show (if ok then (0 : Int) else x.fails + 1) ≤ _
    split <;> omega
theorem Tn.fed {i : Nat} {t t' : Int} {f : PF} (h : Tn i t f) (ht : t ≤ t' ∧ t' ≤ t + 100000) {s : ByteArray} {x y : Fd} (hs : f s = some x) (hy : y.out ≤ t' ∧ 0 ≤ y.fails ∧ y.fails ≤ ((i + 1 : Nat) : Int) ∧ y.due ≤ 1099511627776) : Tn (i + 1) t' (upd f s (some y)) := by
  have h1 := h.up ht
  refine ⟨h1.t0, fun k z hz => ?_, ?_⟩
  · by_cases e : k = s
    · subst e
      rw [upd_same] at hz
      cases hz
      exact hy
    · rw [upd_other _ e] at hz
      exact h1.fe k z hz
  · obtain ⟨L, h2, h3⟩ := h.ls
    refine ⟨L, h2, fun k z hz => ?_⟩
    by_cases e : k = s
    · subst e; exact h3 k x hs
    · rw [upd_other _ e] at hz; exact h3 k z hz
theorem upds_some {f : PF} {ks : List ByteArray} {G : Fd → Fd} {k : ByteArray} {z : Fd} (h : upds f ks G k = some z) : ∃ x, f k = some x ∧ ((k ∈ ks ∧ z = G x) ∨ (k ∉ ks ∧ z = x)) := by
  by_cases hm : k ∈ ks
  · rw [upds_in hm] at h
    obtain ⟨x, h1, h2⟩ := Option.map_eq_some_iff.1 h
    exact ⟨x, h1, .inl ⟨hm, h2.symm⟩⟩
  · rw [upds_out hm] at h
    exact ⟨z, h, .inr ⟨hm, rfl⟩⟩
theorem Tn.feds {i : Nat} {t t' : Int} {f : PF} (h : Tn i t f) (ht : t ≤ t' ∧ t' ≤ t + 100000) (ks : List ByteArray) (G : Fd → Fd) (hG : ∀ x : Fd, 0 ≤ x.fails ∧ x.fails ≤ (i : Int) → x.due ≤ 1099511627776 → (G x).out ≤ t' ∧ 0 ≤ (G x).fails ∧ (G x).fails ≤ ((i + 1 : Nat) : Int) ∧ (G x).due ≤ 1099511627776) : Tn (i + 1) t' (upds f ks G) := by
  have h1 := h.up ht
  refine ⟨h1.t0, fun k z hz => ?_, ?_⟩
  · obtain ⟨x, hx, ⟨_, rfl⟩ | ⟨_, rfl⟩⟩ := upds_some hz
    · have := h.fe k x hx
      exact hG x ⟨this.2.1, this.2.2.1⟩ this.2.2.2
    · exact h1.fe k z hx
  · obtain ⟨L, h2, h3⟩ := h.ls
    exact ⟨L, h2, fun k z hz => by
      obtain ⟨x, hx, _⟩ := upds_some hz
      exact h3 k x hx⟩
theorem foldU_some {t : Int} {f : PF} : ∀ (us : List ByteArray) {k : ByteArray} {x : Fd}, (foldU t f us).1 k = some x → f k = some x ∨ x = ⟨t, 0, -1⟩ := by
  have h : ∀ (us : List ByteArray) (s : PF × Nat) {k : ByteArray} {x : Fd}, (us.foldl (stepU t) s).1 k = some x → s.1 k = some x ∨ x = ⟨t, 0, -1⟩ := fun us => by
    induction us with
    | nil => intro s k x hx; exact .inl hx
    | cons u r ih =>
      intro s k x hx
      rcases ih (stepU t s u) hx with h1 | h1
      · unfold stepU at h1
        split at h1
        · exact .inl h1
        · dsimp only at h1
          by_cases e : k = u
          · subst e; rw [upd_same] at h1; exact .inr (Option.some.inj h1).symm
          · rw [upd_other _ e] at h1; exact .inl h1
      · exact .inr h1
  exact fun us k x hx => h us (f, 0) hx
theorem foldU_has {t : Int} {f : PF} : ∀ (us : List ByteArray) {k : ByteArray}, k ∈ us → ∃ x, (foldU t f us).1 k = some x := by
  have h0 : ∀ (us : List ByteArray) (s : PF × Nat) {k : ByteArray} {x : Fd}, s.1 k = some x → ∃ y, (us.foldl (stepU t) s).1 k = some y := fun us => by
    induction us with
    | nil => intro s k x hx; exact ⟨x, hx⟩
    | cons u r ih =>
      intro s k x hx
      refine (?_ : ∃ y, (stepU t s u).1 k = some y).elim fun y hy => ih _ hy
      unfold stepU
      split
      · exact ⟨x, hx⟩
      · dsimp only
        by_cases e : k = u
        · subst e; rw [upd_same]; exact ⟨_, rfl⟩
        · rw [upd_other _ e]; exact ⟨x, hx⟩
  have h : ∀ (us : List ByteArray) (s : PF × Nat) {k : ByteArray}, k ∈ us → ∃ x, (us.foldl (stepU t) s).1 k = some x := fun us => by
    induction us with
    | nil => intro s k hk; cases hk
    | cons u r ih =>
      intro s k hk
      by_cases e : k = u
      · subst e
        refine (?_ : ∃ y, (stepU t s k).1 k = some y).elim fun y hy => h0 r (stepU t s k) hy
        unfold stepU
        split
        · rename_i x hx; exact ⟨x, hx⟩
        · dsimp only
          rw [upd_same]; exact ⟨_, rfl⟩
      · exact ih _ ((List.mem_cons.1 hk).resolve_left e)
  exact fun us k hk => h us (f, 0) hk
theorem syncF_some {t : Int} {f : PF} {us : List ByteArray} {k : ByteArray} {x : Fd} (h : syncF t f us k = some x) : k ∈ us ∧ (f k = some x ∨ x = ⟨t, 0, -1⟩) := by
  unfold syncF at h
  split at h
  · rename_i hi
    exact ⟨by simpa [inU] using hi, foldU_some us h⟩
  · cases h
theorem syncF_has {t : Int} {f : PF} {us : List ByteArray} {k : ByteArray} (h : k ∈ us) : ∃ x, syncF t f us k = some x := by
  obtain ⟨x, hx⟩ := foldU_has (t := t) (f := f) us h
  refine ⟨x, ?_⟩
  unfold syncF
  rw [if_pos (by simpa [inU] using h)]
  exact hx
theorem Tn.sync {i : Nat} {t t' : Int} {f : PF} (h : Tn i t f) (ht : t ≤ t' ∧ t' ≤ t + 100000) (hi : i ≤ 80) {us : List ByteArray} (hu : us.length ≤ 40) : Tn (i + 1) t' (syncF t' f us) := by
  have h1 := h.up ht
  refine ⟨h1.t0, fun k z hz => ?_, us, hu, fun k z hz => (syncF_some hz).1⟩
  rcases (syncF_some hz).2 with h2 | rfl
  · exact h1.fe k z h2
  · have := h1.t0
    exact ⟨by show (-1 : Int) ≤ t'; omega, by show (0 : Int) ≤ 0; omega, by show (0 : Int) ≤ _; omega, by show t' ≤ _; omega⟩
theorem nodup_sub {ss L : List ByteArray} (h : ss.Nodup) (hs : ∀ k ∈ ss, k ∈ L) : ss.length ≤ L.length := by
  induction ss generalizing L with
  | nil => simp
  | cons k r ih =>
    rw [List.nodup_cons] at h
    have hk := hs k (by simp)
    have := ih (L := L.filter (fun y => decide (y ≠ k))) h.2 (fun y hy => List.mem_filter.2 ⟨hs y (by simp [hy]), by
      simp only [ne_eq, decide_not, Bool.not_eq_eq_eq_not, Bool.not_true, decide_eq_false_iff_not]
      exact fun e => h.1 (by rw [← e]; exact hy)⟩)
    have := List.length_filter_lt_length_iff_exists.2 (⟨k, hk, by simp⟩ : ∃ x ∈ L, ¬ (decide (x ≠ k) = true))
    simp only [List.length_cons]
    omega
/-- The list's sort, for Take. -/
theorem sort_of {B N p m i : Nat} {t t' : Int} {f : PF} (h : ∃ L : List ByteArray, L.length ≤ 49 ∧ ∀ k x, f k = some x → k ∈ L) : ∀ (c base : Nat) (W : World) (v : Value) (ss : List ByteArray), Tk B N p m c t' f W → Ls base W v ss → ss.Nodup → (∀ k, k ∈ ss ↔ isQ f (dueF t') k = true) → (∀ k ∈ ss, k.size ≤ maxLen) → B ≤ base → SortOK B N p m c t' f base W v ss := by
  intro c base W v ss hT hL hnd hq hsz _
  obtain ⟨L, h1, h2⟩ := h
  have hk : ∀ k ∈ ss, ∃ x, f k = some x := fun k hk => by
    obtain ⟨x, hx, _⟩ := isQ_iff.1 ((hq k).1 hk)
    exact ⟨x, hx⟩
  refine sort49 hT hL (fun k hm => ⟨hsz k hm, ?_⟩) (Nat.le_trans (nodup_sub hnd fun k hm => ?_) h1)
  · obtain ⟨x, hx⟩ := hk k hm
    rw [hx]; rfl
  · obtain ⟨x, hx⟩ := hk k hm
    exact h2 k x hx
/-- What Take answers, as the law asks it. -/
structure Took (base : Nat) (w : World) (v : Value) (f f' : PF) (ss : List ByteArray) : Prop where
  ls : Ls base w v ss
  few : ss.length ≤ 100000
  was : ∀ x ∈ ss, ∃ y, f x = some y ∧ y.out < 0
  now : ∀ x ∈ ss, ∃ y, f' x = some y ∧ 0 ≤ y.out
theorem took_of {B N : Nat} {base : Nat} {w : World} {v : Value} {f : PF} {t most : Int} {ss : List ByteArray} (hL : Ls base w v ss) (hT : Taken t f most ss) (hn : ss.length ≤ N) (hN : N ≤ 100000) (ht : 0 ≤ t) : Took base w v f (upds f ss (tkF t)) ss := by
  obtain ⟨all, hnd, hq, rfl⟩ := hT
  have h1 : ∀ x ∈ all.take (cutN most all.length), ∃ y, f x = some y ∧ dueF t y = true := fun x hx => by
    obtain ⟨y, hy, hd⟩ := isQ_iff.1 ((hq x).1 (List.mem_of_mem_take hx))
    exact ⟨y, hy, hd⟩
  refine ⟨hL, Nat.le_trans hn hN, fun x hx => ?_, fun x hx => ?_⟩
  · obtain ⟨y, hy, hd⟩ := h1 x hx
    unfold dueF at hd
    simp only [Bool.and_eq_true, decide_eq_true_eq] at hd
    exact ⟨y, hy, hd.1⟩
  · obtain ⟨y, hy, hd⟩ := h1 x hx
    refine ⟨tkF t y, ?_, ht⟩
    rw [upds_in hx, hy]
    rfl
theorem ls40 {f : PF} {L : List ByteArray} (h : L.length ≤ 40) (h2 : ∀ k x, f k = some x → k ∈ L) : ∃ L : List ByteArray, L.length ≤ 49 ∧ ∀ k x, f k = some x → k ∈ L := ⟨L, by omega, h2⟩
theorem tm5 {k : Int} (h : 0 ≤ k ∧ k < 256) : (Int.tmod k 5 = 0 ∨ Int.tmod k 5 = 1 ∨ Int.tmod k 5 = 2 ∨ Int.tmod k 5 = 3 ∨ Int.tmod k 5 = 4) := by
  have h1 := Int.tmod_nonneg 5 h.1
  have h2 := Int.tmod_lt_of_pos k (b := 5) (by decide)
  omega
theorem Tn.tk {i : Nat} {t t' : Int} {f : PF} (h : Tn i t f) (ht : t ≤ t' ∧ t' ≤ t + 100000) (ks : List ByteArray) : Tn (i + 1) t' (upds f ks (tkF t')) := h.feds ht ks _ fun x hx hd => by
  refine ⟨Int.le_refl _, hx.1, ?_, hd⟩
  show x.fails ≤ _
  omega
theorem Tn.lt {i : Nat} {t t' : Int} {f : PF} (h : Tn i t f) (ht : t ≤ t' ∧ t' ≤ t + 100000) (ks : List ByteArray) : Tn (i + 1) t' (upds f ks (dnF t' false)) := h.feds ht ks _ fun x hx hd => h.dn ht false hx
theorem tn_time {i : Nat} {t now : Int} {f : PF} (h : Tn i t f) (ht : t ≤ now ∧ now ≤ t + 100000) (hi : i ≤ 80) : (0 ≤ t ∧ t ≤ 1099511627776) ∧ ltr t now = now ∧ 0 ≤ now := by
  have h0 := h.t0
  exact ⟨by omega, ltr_next ht.1 (by omega), by omega⟩
/-- What a call leaves. -/
def Does (B p m i : Nat) (now : Int) (f : PF) (k : Int) (w : World) (e : Ending) (w' : World) : Prop :=
  ∃ (v : Value) (n : Int) (N' : Nat) (f' : PF), e = .returned (.tuple #[v, .int .i64 n]) ∧ PA B N' p m now f' w' ∧ N' ≤ (i + 1) * 40 ∧ Tn (i + 1) now f' ∧ Kp B w w' ∧ (Int.tmod k 5 = 1 ∨ Int.tmod k 5 = 4 → ∃ ss, Took w.heap.size w' v f f' ss)
set_option maxHeartbeats 8000000 in
theorem law_does.calls {B N p m i : Nat} {t now : Int} {f : PF} {w : World} (h : PA B N p m t f w) (hN : N ≤ i * 40) (hT : Tn i t f) (ht : t ≤ now ∧ now ≤ t + 100000) (hi : i ≤ 80) (hB : B ≤ w.heap.size) (a : Ac) (R : Option Addr) (cr : Nat) (hk : 0 ≤ a.kind ∧ a.kind < 256)
    (hu : a.urls.length ≤ 40) (hC : ∀ w', Kp B w w' → Kd.string.C w' R a.urls.length a.urls) (hs : ∀ u ∈ a.urls, u.size ≤ maxLen) (hsu : a.url.size ≤ maxLen) :
    Calls Try.prog 17 #[.pointer (some ⟨p, 0, none⟩), .int .i64 now, .agg (av a R cr)] w fun e w' => Does B p m i now f a.kind w e w' := by
  have hA1 := Blk.At.new w (av a R cr) 39
  have hb1 := below_alloc (Below.refl _ w) (.cells (av a R cr) 39)
  have hP1 := h.below hb1
  obtain ⟨g, hg⟩ : ∃ g, g = w.heap.size := ⟨_, rfl⟩
  rw [← hg] at hA1
  have y0 : (w.alloc (.cells (av a R cr) 39)).cell? ⟨g, 0, none⟩ = some (.int .u8 a.kind) := hA1.cell 0
  have y2 : (w.alloc (.cells (av a R cr) 39)).cell? ⟨g, 2, none⟩ = some (.slice R a.urls.length cr) := hA1.cell 2
  have y3 : (w.alloc (.cells (av a R cr) 39)).cell? ⟨g, 3, none⟩ = some (.string a.url) := hA1.cell 3
  have y4 : (w.alloc (.cells (av a R cr) 39)).cell? ⟨g, 4, none⟩ = some (.int .i64 a.n) := hA1.cell 4
  have y5 : (w.alloc (.cells (av a R cr) 39)).cell? ⟨g, 5, none⟩ = some (.bool a.good) := hA1.cell 5
  obtain ⟨ht0, hlt, hn0⟩ := tn_time hT ht hi
  have hNb : N ≤ 100000 := by omega
  have hNu : N ≤ (i + 1) * 40 ∧ N + a.urls.length ≤ (i + 1) * 40 ∧ N + a.urls.length ≤ 100000 := by omega
  have HT := Aside0.mk hT
  have HNU := Aside0.mk hNu
  have HTT := Aside0.mk ht
  have HI := Aside0.mk hi
  have HU := Aside0.mk hu
  have hK1 : Kp B w (w.alloc (.cells (av a R cr) 39)) := Kp.of_below hb1
  have HK1 := Aside0.mk hK1
  have HS := Aside0.mk (show w.heap.size ≤ (w.alloc (.cells (av a R cr) 39)).heap.size from hb1.size)
  rcases tm5 hk with hr | hr | hr | hr | hr
  · have hc := p_Sync.calls hP1 now (c := cr) (fun w' hw => hC w' (hK1.trans hw)) hs HNU.out.2.2
    rw [hlt] at hc
    have HC := Aside0.mk hc
    clear hA1 hb1 hP1 y3 y4 y5 ht0 hlt hn0 hNb hNu hc hK1 h hN hT ht hi hB hu hC hs hsu hk
    replace hg := hg.symm
    go_enter Try.func17, Try.ntmps17
    go_wp2_with fail
    refine HC.out.mono ?_
    rintro e w1 ⟨rfl, hP, hK⟩
    have HP := Aside0.mk hP
    have HKK := Aside0.mk (HK1.out.trans hK)
    clear hP hK HC
    go_wp2_with fail
    go_ret2
    exact ⟨_, _, _, _, rfl, HP.out, HNU.out.2.1, HT.out.sync HTT.out HI.out HU.out, HKK.out, fun h => by omega⟩
  · have hc := p_Take.calls hP1 hNb now a.n (by rw [hlt]; obtain ⟨L, h1, h2⟩ := hT.ls; exact sort_of (i := i) (t := t) (ls40 h1 h2)) (Nat.le_trans hB hb1.size)
    rw [hlt] at hc
    have HC := Aside0.mk hc
    have HN0 := Aside0.mk (And.intro hn0 hNb)
    clear hA1 hb1 hP1 y2 y3 y5 ht0 hlt hn0 hNb hNu hc hK1 h hN hT ht hi hB hu hC hs hsu hk
    replace hg := hg.symm
    go_enter Try.func17, Try.ntmps17
    go_wp2_with fail
    refine HC.out.mono ?_
    rintro e w1 ⟨v, ss, rfl, hL, hTk, hsz, hP, hK⟩
    have HP := Aside0.mk hP
    have HKK := Aside0.mk (HK1.out.trans hK)
    have HTO := Aside0.mk (took_of (B := B) (Kd.R_lower hL HS.out) hTk hsz.1 HN0.out.2 HN0.out.1)
    clear hP hK HC hL hTk hsz
    go_wp2_with fail
    go_ret2
    exact ⟨_, _, _, _, rfl, HP.out, HNU.out.1, HT.out.tk HTT.out _, HKK.out, fun h => ⟨_, HTO.out⟩⟩
  · have hd : Calls Try.prog 11 #[.pointer (some ⟨p, 0, none⟩), .int .i64 now, .string a.url, .bool a.good] (w.alloc (.cells (av a R cr) 39)) fun e w' => ∃ (n : Int) (f' : PF), e = .returned (.int .i64 n) ∧ PA B N p m now f' w' ∧ Tn (i + 1) now f' ∧ Kp B (w.alloc (.cells (av a R cr) 39)) w' := by
      cases hf : f a.url with
      | none =>
        have := p_Done0.calls hP1 now hsu a.good hf
        rw [hlt] at this
        exact this.mono fun e w' ⟨h1, h2, h3⟩ => ⟨_, _, h1, h2, hT.up ht, h3⟩
      | some x =>
        by_cases ho : x.out < 0
        · have := p_Done1.calls hP1 now hsu a.good hf ho
          rw [hlt] at this
          exact this.mono fun e w' ⟨h1, h2, h3⟩ => ⟨_, _, h1, h2, hT.up ht, h3⟩
        · have hfe := hT.fe _ _ hf
          have := p_Done2.calls hP1 now hsu a.good hf (by omega) ht0 ⟨hfe.2.1, by omega⟩
          rw [hlt] at this
          exact this.mono fun e w' ⟨h1, h2, h3⟩ => ⟨_, _, h1, h2, hT.fed ht hf (hT.dn ht a.good ⟨hfe.2.1, hfe.2.2.1⟩), h3⟩
    have HC := Aside0.mk hd
    clear hA1 hb1 hP1 y2 y4 ht0 hlt hn0 hNb hNu hd hK1 h hN hT ht hi hB hu hC hs hsu hk
    replace hg := hg.symm
    go_enter Try.func17, Try.ntmps17
    go_wp2_with fail
    refine HC.out.mono ?_
    rintro e w1 ⟨n, f', rfl, hP, hT', hK⟩
    have HP := Aside0.mk (And.intro hP hT')
    have HKK := Aside0.mk (HK1.out.trans hK)
    clear hP hK HC hT'
    go_wp2_with fail
    go_ret2
    exact ⟨_, _, _, _, rfl, HP.out.1, HNU.out.1, HP.out.2, HKK.out, fun h => by omega⟩
  · have hc := p_Late.calls hP1 hNb now ht0 (fun k x hx => by have := hT.fe k x hx; omega)
    rw [hlt] at hc
    have HC := Aside0.mk hc
    clear hA1 hb1 hP1 y2 y3 y4 y5 ht0 hlt hn0 hNb hNu hc hK1 h hN hT ht hi hB hu hC hs hsu hk
    replace hg := hg.symm
    go_enter Try.func17, Try.ntmps17
    go_wp2_with fail
    refine HC.out.mono ?_
    rintro e w1 ⟨v, ss, rfl, _, hP, hK⟩
    have HP := Aside0.mk hP
    have HKK := Aside0.mk (HK1.out.trans hK)
    clear hP hK HC
    go_wp2_with fail
    go_ret2
    exact ⟨_, _, _, _, rfl, HP.out, HNU.out.1, HT.out.lt HTT.out _, HKK.out, fun h => by omega⟩
  · have hc := p_Take.calls hP1 hNb now a.n (by rw [hlt]; obtain ⟨L, h1, h2⟩ := hT.ls; exact sort_of (i := i) (t := t) (ls40 h1 h2)) (Nat.le_trans hB hb1.size)
    rw [hlt] at hc
    have HC := Aside0.mk hc
    have HN0 := Aside0.mk (And.intro hn0 hNb)
    clear hA1 hb1 hP1 y2 y3 y5 ht0 hlt hn0 hNb hNu hc hK1 h hN hT ht hi hB hu hC hs hsu hk
    replace hg := hg.symm
    go_enter Try.func17, Try.ntmps17
    go_wp2_with fail
    refine HC.out.mono ?_
    rintro e w1 ⟨v, ss, rfl, hL, hTk, hsz, hP, hK⟩
    have HP := Aside0.mk hP
    have HKK := Aside0.mk (HK1.out.trans hK)
    have HTO := Aside0.mk (took_of (B := B) (Kd.R_lower hL HS.out) hTk hsz.1 HN0.out.2 HN0.out.1)
    clear hP hK HC hL hTk hsz
    go_wp2_with fail
    go_ret2
    exact ⟨_, _, _, _, rfl, HP.out, HNU.out.1, HT.out.tk HTT.out _, HKK.out, fun h => ⟨_, HTO.out⟩⟩
end Go.Proofs.Ytomkjakffpomdaa.Q
