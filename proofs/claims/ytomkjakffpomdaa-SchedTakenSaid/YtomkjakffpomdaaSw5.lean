/- A plan's functions, walked: Take; what is alive. No condition but those typed. -/
import Derived.Test.YtomkjakffpomdaaSw4
namespace Go.Proofs.Ytomkjakffpomdaa.Q
open Go.RowKit Go.Maps Go.Sort Go.Shelf Go.Proofs.YtomkjakffpomdaaW.PrintWords Go.Proofs.YtomkjakffpomdaaW.PrintLast Go.Proofs.YtomkjakffpomdaaW.PrintMore
attribute [local go_sem] max2_int min2_int max_two min_two max_three min_three max_four min_four   -- for this text's walks alone
set_option linter.unusedVariables false
set_option linter.unusedSimpArgs false
set_option maxRecDepth 100000
theorem s_insertion1.calls (A : Option Addr) {n : Nat} (hn : n ≤ 1) (c : Nat) (q : Value) (w : World) : Calls Try.prog 42 #[.slice A n c, .int .i64 0, .int .i64 n, q] w fun e w' => e = .returned (.tuple #[]) ∧ w' = w := by
  have hlt : ¬ ((1 : Int) < n) := by omega
  go_enter Try.func42, Try.ntmps42
  go_wp2_with fail
  go_loopw [8] (fun j wr => j = .int .i64 1 ∧ Aside0 (wr = w)) (fun _ _ => 0)
  case atStart => exact ⟨rfl, ⟨rfl⟩⟩
  case round =>
    obtain ⟨rfl, HW⟩ := hrel
    go_wp2_with fail
    go_end0
    exact ⟨rfl, HW.out⟩
theorem s_pdq1.calls (A : Option Addr) {n : Nat} (hn : n ≤ 1) (c : Nat) (q : Value) (l : Int) (w : World) : Calls Try.prog 35 #[.slice A n c, .int .i64 0, .int .i64 n, .int .i64 l, q] w fun e w' => e = .returned (.tuple #[]) ∧ w' = w := by
  have hs : wrap64 ((n : Int) - 0) = n := by unfold wrap64; omega
  have hs2 : wrap64 (n : Int) = n := by unfold wrap64; omega
  have hle : (n : Int) ≤ 12 := by omega
  have HI := Aside0.mk (fun W => s_insertion1.calls A hn c q W)
  go_enter Try.func35, Try.ntmps35
  go_wp2_with fail
  go_loopw [1, 2, 10] (fun a b x wr => a = .int .i64 0 ∧ b = .int .i64 n ∧ Aside0 (wr = w)) (fun _ _ _ _ => 0)
  case atStart => exact ⟨rfl, rfl, ⟨rfl⟩⟩
  case round =>
    obtain ⟨rfl, rfl, HW⟩ := hrel
    go_wp2_with fail
    refine (HI.out _).mono ?_
    rintro e w1 ⟨rfl, rfl⟩
    go_wp2_with fail
    refine bodyPost_ret (results_none rfl _ _ _) rfl ?_
    exact ⟨rfl, HW.out⟩
/-- What a sort leaves: the same ones, in some order; nothing else has turned. -/
def SortOK (B N p m c : Nat) (t : Int) (f : PF) (base : Nat) (w : World) (v : Value) (ss : List ByteArray) : Prop :=
  Calls Try.prog 27 #[v, .func (.func 28) #[.pointer (some ⟨p, 0, none⟩)] #[]] w fun e w' => e = .returned (.tuple #[]) ∧ ∃ ss', ss'.Perm ss ∧ Ls base w' v ss' ∧ Tk B N p m c t f w' ∧ ∃ row, w.grownBy w' row ∧ ∀ j, row = some j → base ≤ j
theorem sort1 {B N p m c base : Nat} {t : Int} {f : PF} {w : World} (h : Tk B N p m c t f w) {v : Value} {ss : List ByteArray} (hL : Ls base w v ss) (hn : ss.length ≤ 1) : SortOK B N p m c t f base w v ss := by
  unfold SortOK
  have HL := Aside0.mk hL
  have H := Aside0.mk h
  obtain ⟨A, cap, rfl⟩ := Kd.R_slice hL
  clear hL h
  have hcv : IntKind.u64.wrap (ss.length : Int) = ss.length := by simp [IntKind.wrap, IntKind.bits, IntKind.signed]; omega
  have hb := Try.bits_Len (ss.length : Int) w (by omega) (by omega)
  have HP := Aside0.mk (fun l W => s_pdq1.calls A hn cap (.func (.func 28) #[.pointer (some ⟨p, 0, none⟩)] #[]) l W)
  clear hn
  go_enter Try.func27, Try.ntmps27
  go_wp2_with fail
  refine hb.mono ?_
  rintro e w1 ⟨rfl, rfl⟩
  clear hb
  go_wp2_with fail
  refine (HP.out _ _).mono ?_
  rintro e w1 ⟨rfl, rfl⟩
  go_wp2_with fail
  go_end0
  exact ⟨rfl, ss, List.Perm.refl _, HL.out, H.out, none, grownBy_none (Below.refl _ _), fun j hj => by cases hj⟩
theorem p_Take.dead {v : Value} {w : World} (h : Dead v w) (now n : Int) : Calls Try.prog 10 #[v, .int .i64 now, .int .i64 n] w fun e w' => e = .returned (.slice none 0 0) ∧ Below w.heap.size w w' := by
  have hk := p_ok.dead (h.below (below_alloc (Below.refl _ _) (.cells #[v] 22)))
  have hv : ∃ a, v = .pointer a := by
    rcases h with rfl | ⟨p, rfl, _⟩
    · exact ⟨_, rfl⟩
    · exact ⟨_, rfl⟩
  obtain ⟨a, rfl⟩ := hv
  clear h
  go_enter Try.func10, Try.ntmps10
  go_wp2_with fail
  refine hk.mono ?_
  rintro e w1 ⟨rfl, rfl⟩
  go_wp2_with fail
  go_ret
  exact ⟨rfl, below_alloc (Below.refl _ _) _⟩
/-- A feed that is taken. -/
def tkF (t : Int) (x : Fd) : Fd := ⟨x.due, x.fails, t⟩
def cutN (most : Int) (n : Nat) : Nat := (if (n : Int) < (if most < 0 then 0 else most) then (n : Int) else (if most < 0 then 0 else most)).toNat
theorem cutN_le (most : Int) (n : Nat) : cutN most n ≤ n := by
  unfold cutN
  split <;> split <;> omega
/-- What is taken: some of the feeds that are due, as many as may be. -/
def Taken (t : Int) (f : PF) (most : Int) (ss : List ByteArray) : Prop :=
  ∃ all : List ByteArray, all.Nodup ∧ (∀ k, k ∈ all ↔ isQ f (dueF t) k = true) ∧ ss = all.take (cutN most all.length)
set_option maxHeartbeats 4000000 in
theorem p_Take.calls {B N p m : Nat} {t : Int} {f : PF} {w : World} (h : PA B N p m t f w) (hN : N ≤ 100000) (now most : Int)
    (hsort : ∀ (c base : Nat) (W : World) (v : Value) (ss : List ByteArray), Tk B N p m c (ltr t now) f W → Ls base W v ss → ss.Nodup → (∀ k, k ∈ ss ↔ isQ f (dueF (ltr t now)) k = true) → (∀ k ∈ ss, k.size ≤ maxLen) → B ≤ base → SortOK B N p m c (ltr t now) f base W v ss) (hB : B ≤ w.heap.size) :
    Calls Try.prog 10 #[.pointer (some ⟨p, 0, none⟩), .int .i64 now, .int .i64 most] w fun e w' => ∃ v, ∃ ss : List ByteArray, e = .returned v ∧ Ls w.heap.size w' v ss ∧ Taken (ltr t now) f most ss ∧ (ss.length ≤ N ∧ ∀ k ∈ ss, k.size ≤ maxLen) ∧ PA B N p m (ltr t now) (upds f ss (tkF (ltr t now))) w' ∧ Kp B w w' := by
  have ha := below_alloc (Below.refl _ w) (.cells #[.pointer (some ⟨p, 0, none⟩)] 22)
  have hc := Blk.At.new w #[.pointer (some ⟨p, 0, none⟩)] 22
  have hsz : (w.alloc (.cells #[.pointer (some ⟨p, 0, none⟩)] 22)).heap.size = w.heap.size + 1 := size_alloc _ _
  have h1 := h.below ha
  have hk := p_ok.calls h1
  have hl := p_later.calls h1 now
  obtain ⟨t1, hT⟩ : ∃ t1, t1 = ltr t now := ⟨_, rfl⟩
  rw [← hT] at hl hsort ⊢
  obtain ⟨c, hce⟩ : ∃ c, c = w.heap.size := ⟨_, rfl⟩
  rw [← hce] at hc hsz
  have HSO := Aside0.mk hsort
  have HBW := Aside0.mk hB
  have HN := Aside0.mk hN
  have HCE := Aside0.mk hce
  obtain ⟨wa, hwa⟩ : ∃ wa, wa = w.alloc (.cells #[.pointer (some ⟨p, 0, none⟩)] 22) := ⟨_, rfl⟩
  rw [← hwa] at hk hl ha hc hsz
  have hca : wa.cell? ⟨c, 0, none⟩ = some (.pointer (some ⟨p, 0, none⟩)) := hc.cell 0
  have HA := Aside0.mk ha
  have HC := Aside0.mk hc
  clear h h1 hN ha hc hsz hT hsort hB
  replace hwa := hwa.symm
  replace hce := hce.symm
  go_enter Try.func10, Try.ntmps10
  go_wp2_with fail
  refine hk.mono ?_
  rintro e w1 ⟨rfl, rfl⟩
  go_wp2_with fail
  refine hl.mono ?_
  rintro e w2 ⟨rfl, hP, hK⟩
  have hC2 := At.kp HC.out (by decide) (by decide) hK
  have HT2 := Aside0.mk (Tk.mk hP hC2)
  have hcc : w2.cell? ⟨c, 0, none⟩ = some (.pointer (some ⟨p, 0, none⟩)) := hC2.cell 0
  have hAll := p_All.calls hP HN.out
  have HK2 := Aside0.mk ((Kp.of_below (B := B) HA.out).trans hK)
  clear hP hK hC2 hk hl
  go_wp2_with fail
  refine hAll.mono ?_
  rintro e w3 ⟨v3, ss, rfl, ⟨hL, h2, h3, h4⟩, hb⟩
  have HT3 := Aside0.mk (HT2.out.below hb)
  have hDF : Known f ss := fun k hk => ⟨h4.2 k hk, by
    obtain ⟨x, hx, _⟩ := (h3 k).1 hk
    rw [hx]; rfl⟩
  have HD := Aside0.mk (show (ss.filter (stayQ t1 f)).Nodup ∧ (∀ k, k ∈ ss.filter (stayQ t1 f) ↔ isQ f (dueF t1) k = true) ∧ (ss.filter (stayQ t1 f)).length ≤ N ∧ ∀ k ∈ ss.filter (stayQ t1 f), k.size ≤ maxLen from ⟨h2.filter _, fun k => by
    rw [List.mem_filter]
    unfold stayQ
    constructor
    · exact fun h => h.2
    · intro h
      refine ⟨(h3 k).2 ?_, h⟩
      obtain ⟨x, hx, _⟩ := isQ_iff.1 h
      exact ⟨x, hx, rfl⟩, Nat.le_trans (List.length_filter_le _ _) h4.1, fun k hk => h4.2 k (List.mem_filter.1 hk).1⟩)
  obtain ⟨A3, c3, rfl⟩ := Kd.R_slice hL
  have hdel := s_DeleteFunc.calls HT3.out hL hDF (Nat.le_trans h4.1 HN.out)
  have HK3 := Aside0.mk (HK2.out.trans (Kp.of_below hb))
  have HB3 := Aside0.mk (show w.heap.size ≤ w2.heap.size ∧ B ≤ w2.heap.size from ⟨HK2.out.size, Nat.le_trans HBW.out HK2.out.size⟩)
  have HB23 := Aside0.mk hb
  clear hL h2 h3 h4 hDF hb hAll hcc
  generalize ss.filter (stayQ t1 f) = dl at hdel HD
  go_wp2_with fail
  refine hdel.mono ?_
  rintro e w4 ⟨v4, rfl, hL4, hT4, row4, hg4, hr4⟩
  have HSRT := Aside0.mk (HSO.out c w2.heap.size w4 _ dl hT4 hL4 HD.out.1 HD.out.2.1 HD.out.2.2.2 HB3.out.2)
  unfold SortOK at HSRT
  obtain ⟨A4, c4, rfl⟩ := Kd.R_slice hL4
  have HK4 := Aside0.mk (HK3.out.grown hg4 (fun j hj => .inl (Nat.le_trans HB3.out.1 (hr4 j hj))))
  have hcc : w4.cell? ⟨c, 0, none⟩ = some (.pointer (some ⟨p, 0, none⟩)) := hT4.cap.cell 0
  clear hL4 hT4 hg4 hr4 hdel
  go_wp2_with fail
  refine HSRT.out.mono ?_
  rintro e w5 ⟨rfl, ss5, hperm, hL5, hT5, row5, hg5, hr5⟩
  have hlen5 := hperm.length_eq
  rw [← hlen5] at hL5 ⊢
  obtain ⟨K, hK⟩ : ∃ K, K = cutN most ss5.length := ⟨_, rfl⟩
  have hKle : K ≤ ss5.length := hK ▸ cutN_le _ _
  have HTK := Aside0.mk (show ss5.Nodup ∧ (∀ k, k ∈ ss5 ↔ isQ f (dueF t1) k = true) ∧ ss5.length ≤ N ∧ (∀ k ∈ ss5, k.size ≤ maxLen) from ⟨hperm.nodup_iff.2 HD.out.1, fun k => hperm.mem_iff.trans (HD.out.2.1 k), by rw [hlen5]; exact HD.out.2.2.1, fun k hk => HD.out.2.2.2 k (hperm.mem_iff.1 hk)⟩)
  obtain ⟨M, hM⟩ : ∃ M : Int, (if most < 0 then 0 else most) = M := ⟨_, rfl⟩
  have hM2 : (if (ss5.length : Int) < M then (ss5.length : Int) else M) = (K : Int) := by
    rw [hK]
    unfold cutN
    rw [hM]
    have : 0 ≤ M := by rw [← hM]; split <;> omega
    split <;> omega
  obtain ⟨i0, hi0, hz0, hz1, hz2⟩ := info_parts info9
  have hcap5 := (Kd.V_reads' (Kd.R_V (base' := 0) hL5)).2.1
  have hcut := cut_to 29 9 .i64 Try.underlying29 hi0 A4 ss5.length c4 (K : Int) (by omega) (by omega) hcap5
  simp only [Int.toNat_natCast] at hcut
  have hR5 := Kd.R_take hL5 hKle
  have hKl : (ss5.take K).length = K := by rw [List.length_take]; omega
  have HRS := Aside0.mk (show ss5.take K = ss5.take (cutN most ss5.length) from by rw [hK])
  have HKL := Aside0.mk hKl
  have HLR := Aside0.mk hR5
  have HT5 := Aside0.mk hT5
  have HK5 := Aside0.mk (HK4.out.grown hg5 (fun j hj => .inl (Nat.le_trans HB3.out.1 (hr5 j hj))))
  have HKLE := Aside0.mk hKle
  clear hperm hL5 hT5 hg5 hr5 hlen5 hK hKle hi0 hz0 hz1 hz2 hR5 hKl hcc HSRT HD
  go_wp2_with fail
  generalize hrs : ss5.take K = rs at HRS HKL HLR
  have HRSE := Aside0.mk hrs
  have HP0 := Aside0.mk (show Tk B N p m c t1 (upds f (rs.take 0) (tkF t1)) w5 from by rw [List.take_zero, upds_nil]; exact HT5.out)
  have HK0 := Aside0.mk (Kp.refl B w5)
  have hnd : rs.Nodup := by rw [← hrs]; exact HTK.out.1.sublist (List.take_sublist _ _)
  have HND := Aside0.mk (show rs.Nodup ∧ (∀ k ∈ rs, isQ f (dueF t1) k = true ∧ k.size ≤ maxLen) from ⟨hnd, fun k hk => by
    have hm : k ∈ ss5 := by rw [← hrs] at hk; exact List.mem_of_mem_take hk
    exact ⟨(HTK.out.2.1 k).1 hm, HTK.out.2.2.2 k hm⟩⟩)
  clear hrs hcut hM hM2 hnd
  go_loopw [33] (fun j wr => ∃ n : Nat, n ≤ K ∧ j = .int .i64 n ∧ Aside0 (Tk B N p m c t1 (upds f (rs.take n) (tkF t1)) wr) ∧ Aside0 (Kp B w5 wr)) (fun j _ => K - (intOf j).toNat)
  case atStart => exact ⟨0, Nat.zero_le _, rfl, HP0, HK0⟩
  case round =>
    clear HP0 HK0
    obtain ⟨n, hn, rfl, HP, HK⟩ := hrel
    by_cases hlt : n < K
    · have hLr := Ls.kp HLR.out HK.out
      obtain ⟨_, _, hCr⟩ := Kd.V_reads' (Kd.R_V (base' := 0) hLr)
      have hlr : n < rs.length := by rw [HKL.out]; exact hlt
      obtain ⟨ad, rfl, hcs⟩ := Kd.C_strings_cells hCr (by omega)
      have hx0 : wr.cell? (ad.add n) = some (.string rs[n]) := hcs n _ (List.getElem?_eq_getElem hlr)
      have hmem : rs[n] ∈ rs := List.getElem_mem hlr
      obtain ⟨hisq, hsz⟩ := HND.out.2 _ hmem
      obtain ⟨fx, hfx, hdu⟩ := isQ_iff.1 hisq
      have hup := upds_step (tkF t1) HND.out.1 hlr hfx
      have hfr := upds_fresh (f := f) (tkF t1) HND.out.1 hlr
      rw [hfx] at hfr
      generalize rs[n] = s at hx0 hsz hup hfr
      obtain ⟨b, D, hPl⟩ := HP.out.pa
      have hPd := hPl.np (Np.drew wr)
      have x1 : wr.cell? ⟨p, 1, none⟩ = some (.map (some m)) := hPl.pl.cell 1
      have x0 : wr.cell? ⟨p, 0, none⟩ = some (.int .i64 t1) := hPl.pl.cell 0
      have hcr : wr.cell? ⟨c, 0, none⟩ = some (.pointer (some ⟨p, 0, none⟩)) := HP.out.cap.cell 0
      have hlk := hPd.look1 hsz hfr
      have hbk := hPd.blk s fx hfr
      have HPL := Aside0.mk hPd
      have HFR := Aside0.mk hfr
      obtain ⟨g, hg⟩ : ∃ g, g = b s := ⟨_, rfl⟩
      have HG := Aside0.mk hg
      rw [← hg] at hlk hbk
      have g2 : wr.cell? ⟨g, 2, none⟩ = some (.int .i64 fx.out) := hbk.cell 2
      have g2' : wr.frozen? ⟨g, 2, none⟩ = false := hbk.frozen 2
      have HBK := Aside0.mk hbk
      have HLT := Aside0.mk hlt
      have HUP := Aside0.mk hup
      have en : wrap64 ((n : Int) + 1) = ((n + 1 : Nat) : Int) := w64n (by have := hCr.2.1; have := HKL.out; omega)
      clear hmem hfx hdu hsz hup hfr hPl hPd hCr hcs hLr hlr hisq hbk hg
      go_wp2_with fail
      refine start_ (n := 13) (S := fun w' => w'.cell? ⟨c, 0, none⟩ = some (.pointer (some ⟨p, 0, none⟩)) ∧ w'.cell? ⟨p, 1, none⟩ = some (.map (some m)) ∧ w'.cell? ⟨p, 0, none⟩ = some (.int .i64 t1) ∧ w'.cell? ⟨g, 2, none⟩ = some (.int .i64 fx.out) ∧ w'.frozen? ⟨g, 2, none⟩ = false ∧ (Instr.lookup 47 (.map (some m)) (.string s) false).run Try.prog w' = .ok (.pointer (some ⟨g, 0, none⟩)) w') (ds := [12]) #[false, false, false, false, false, false, false, false, false, false, false, false, false] (by kernel_rfl) rfl rfl ⟨hcr, x1, x0, g2, g2', hlk⟩ (fun hHeld => ?_)
      refine pure_ (i := 4) (N := some 41) (v := ?_) (a' := ?_) #[false, false, false, false, true, false, false, false, false, false, false, false, false] rfl rfl (by kernel_rfl) (fun _ _ _ h => h) (Or.inl ⟨by rfl, ?_⟩) ?_ ?_
      rotate_left
      · intro w'
        go_simp
        with_reducible rfl
      rotate_left
      · simp only [Act.put, List.setIfInBounds_toArray, List.set_cons_zero, List.set_cons_succ, i64_w, i32_w]
        rfl
      refine take_ (i := 0) (N := some 37) (v := ?_) (a' := ?_) #[true, false, false, false, true, false, false, false, false, false, false, false, false] rfl rfl (by kernel_rfl) (fun _ _ _ h => h) (Or.inl ⟨by rfl, ?_⟩) hHeld ?_ ?_
      rotate_left
      · rintro w' ⟨s0, s1, s2, s3, s4, s5⟩
        go_simp
        with_reducible rfl
      rotate_left
      · simp only [Act.put, List.setIfInBounds_toArray, List.set_cons_zero, List.set_cons_succ, i64_w, i32_w]
        rfl
      refine pure_ (i := 1) (N := some 38) (v := ?_) (a' := ?_) #[true, true, false, false, true, false, false, false, false, false, false, false, false] rfl rfl (by kernel_rfl) (fun _ _ _ h => h) (Or.inl ⟨by rfl, ?_⟩) ?_ ?_
      rotate_left
      · intro w'
        go_simp
        with_reducible rfl
      rotate_left
      · simp only [Act.put, List.setIfInBounds_toArray, List.set_cons_zero, List.set_cons_succ, i64_w, i32_w]
        rfl
      refine pure_ (i := 2) (N := some 39) (v := ?_) (a' := ?_) #[true, true, true, false, true, false, false, false, false, false, false, false, false] rfl rfl (by kernel_rfl) (fun _ _ _ h => h) (Or.inl ⟨by rfl, ?_⟩) ?_ ?_
      rotate_left
      · intro w'
        go_simp
        with_reducible rfl
      rotate_left
      · simp only [Act.put, List.setIfInBounds_toArray, List.set_cons_zero, List.set_cons_succ, i64_w, i32_w]
        rfl
      refine take_ (i := 3) (N := some 40) (v := ?_) (a' := ?_) #[true, true, true, true, true, false, false, false, false, false, false, false, false] rfl rfl (by kernel_rfl) (fun _ _ _ h => h) (Or.inl ⟨by rfl, ?_⟩) hHeld ?_ ?_
      rotate_left
      · rintro w' ⟨s0, s1, s2, s3, s4, s5⟩
        go_simp
        with_reducible rfl
      rotate_left
      · simp only [Act.put, List.setIfInBounds_toArray, List.set_cons_zero, List.set_cons_succ, i64_w, i32_w]
        rfl
      refine take_ (i := 5) (N := some 42) (v := ?_) (a' := ?_) #[true, true, true, true, true, true, false, false, false, false, false, false, false] rfl rfl (by kernel_rfl) (fun _ _ _ h => h) (Or.inl ⟨by rfl, ?_⟩) hHeld ?_ ?_
      rotate_left
      · rintro w' ⟨s0, s1, s2, s3, s4, s5⟩
        go_simp
        with_reducible rfl
      rotate_left
      · simp only [Act.put, List.setIfInBounds_toArray, List.set_cons_zero, List.set_cons_succ, i64_w, i32_w]
        rfl
      refine take_ (i := 6) (N := some 43) (v := ?_) (a' := ?_) #[true, true, true, true, true, true, true, false, false, false, false, false, false] rfl rfl (by kernel_rfl) (fun _ _ _ h => h) (Or.inl ⟨by rfl, ?_⟩) hHeld ?_ ?_
      rotate_left
      · rintro w' ⟨s0, s1, s2, s3, s4, s5⟩
        go_simp
        with_reducible rfl
      rotate_left
      · simp only [Act.put, List.setIfInBounds_toArray, List.set_cons_zero, List.set_cons_succ, i64_w, i32_w]
        rfl
      refine pure_ (i := 7) (N := some 44) (v := ?_) (a' := ?_) #[true, true, true, true, true, true, true, true, false, false, false, false, false] rfl rfl (by kernel_rfl) (fun _ _ _ h => h) (Or.inl ⟨by rfl, ?_⟩) ?_ ?_
      rotate_left
      · intro w'
        go_simp
        with_reducible rfl
      rotate_left
      · simp only [Act.put, List.setIfInBounds_toArray, List.set_cons_zero, List.set_cons_succ, i64_w, i32_w]
        rfl
      refine pure_ (i := 8) (N := some 45) (v := ?_) (a' := ?_) #[true, true, true, true, true, true, true, true, true, false, false, false, false] rfl rfl (by kernel_rfl) (fun _ _ _ h => h) (Or.inl ⟨by rfl, ?_⟩) ?_ ?_
      rotate_left
      · intro w'
        go_simp
        with_reducible rfl
      rotate_left
      · simp only [Act.put, List.setIfInBounds_toArray, List.set_cons_zero, List.set_cons_succ, i64_w, i32_w]
        rfl
      refine take_ (i := 9) (N := some 46) (v := ?_) (a' := ?_) #[true, true, true, true, true, true, true, true, true, true, false, false, false] rfl rfl (by kernel_rfl) (fun _ _ _ h => h) (Or.inl ⟨by rfl, ?_⟩) hHeld ?_ ?_
      rotate_left
      · rintro w' ⟨s0, s1, s2, s3, s4, s5⟩
        go_simp
        with_reducible rfl
      rotate_left
      · simp only [Act.put, List.setIfInBounds_toArray, List.set_cons_zero, List.set_cons_succ, i64_w, i32_w]
        rfl
      refine pure_ (i := 10) (N := some 47) (v := ?_) (a' := ?_) #[true, true, true, true, true, true, true, true, true, true, true, false, false] rfl rfl (by kernel_rfl) (fun _ _ _ h => h) (Or.inl ⟨by rfl, ?_⟩) ?_ ?_
      rotate_left
      · intro w'
        go_simp
        with_reducible rfl
      rotate_left
      · simp only [Act.put, List.setIfInBounds_toArray, List.set_cons_zero, List.set_cons_succ, i64_w, i32_w]
        rfl
      refine pure_ (i := 11) (N := some 48) (v := ?_) (a' := ?_) #[true, true, true, true, true, true, true, true, true, true, true, true, false] rfl rfl (by kernel_rfl) (fun _ _ _ h => h) (Or.inl ⟨by rfl, ?_⟩) ?_ ?_
      rotate_left
      · intro w'
        go_simp
        with_reducible rfl
      rotate_left
      · simp only [Act.put, List.setIfInBounds_toArray, List.set_cons_zero, List.set_cons_succ, i64_w, i32_w]
        rfl
      refine last_ (i := 12) (N := none) #[true, true, true, true, true, true, true, true, true, true, true, true, true] rfl rfl (by kernel_rfl) (by decide) (fun K hK => ?_)
      refine skip_ (w1 := ?_) (by rfl) rfl ?_ ?_
      rotate_left
      · go_simp
        rfl
      refine hK.out _ _ ?_
      clear hK K
      refine done_ (by kernel_rfl) ?_
      go_wp2_with fail
      have hset := (HBK.out.set 2 (.int .i64 t1))
      have hB2 : B ≤ g := HG.out ▸ HPL.out.bB s fx HFR.out
      have e1 : (wr.setCell ⟨g, 2, none⟩ (.int .i64 t1)).drew = wr.drew.setCell ⟨g, 2, none⟩ (.int .i64 t1) := rfl
      have hP6 := HPL.out.feed (w' := wr.drew.setCell ⟨g, 2, none⟩ (.int .i64 t1)) (x := tkF t1 fx) HFR.out (HG.out ▸ hset) (fun i hi _ => Below.heap_setCell _ _ _ _ (by rw [HG.out]; exact hi))
      have hc6 : Blk.At c #[.pointer (some ⟨p, 0, none⟩)] 22 (wr.drew.setCell ⟨g, 2, none⟩ (.int .i64 t1)) := (HP.out.cap.drew).set_other (fun e => by
        have h1 := HBK.out
        have h2 := (HP.out.cap).drew
        unfold Blk.At at h1 h2
        rw [e, h2] at h1
        cases h1) _ _
      rw [en, e1]
      refine ⟨⟨n + 1, HLT.out, rfl, ⟨?_⟩, ⟨?_⟩⟩, by simp [intOf]; omega⟩
      · rw [HUP.out]
        exact ⟨⟨b, D, hP6⟩, hc6⟩
      · exact (HK.out.trans (Kp.of_below (below_drew (Below.refl _ _)))).trans (Kp.setCell hB2 (keyed_at HBK.out (.inr rfl)))
    · obtain rfl : n = K := by omega
      go_wp2_with fail
      go_ret
      have hP := HP.out.pa
      rw [← HKL.out, List.take_length] at hP
      refine ⟨_, rs, rfl, Kd.R_lower (Ls.kp HLR.out HK.out) HB3.out.1, ⟨ss5, HTK.out.1, HTK.out.2.1, HRS.out⟩, ⟨by rw [HKL.out]; exact Nat.le_trans HKLE.out HTK.out.2.2.1, fun k hk => (HND.out.2 k hk).2⟩, hP, HK5.out.trans HK.out⟩
/-! ### One feed alone -/
def aS : ByteArray := ⟨#[97]⟩
theorem aS_size : aS.size ≤ maxLen := by decide
def sg (x : Fd) : PF := upd (fun _ => none) aS (some x)
theorem sg_at (x : Fd) : sg x aS = some x := upd_same _ _ _
theorem sg_iff {x y : Fd} {k : ByteArray} : sg x k = some y ↔ k = aS ∧ y = x := by
  unfold sg
  by_cases e : k = aS
  · subst e
    rw [upd_same]
    simp [eq_comm]
  · rw [upd_other _ e]
    simp [e]
theorem sg_upd (x y : Fd) : upd (sg x) aS (some y) = sg y := by
  funext k
  unfold sg
  by_cases e : k = aS
  · subst e; rw [upd_same, upd_same]
  · rw [upd_other _ e, upd_other _ e, upd_other _ e]
theorem sg_sync (t : Int) : syncF t (fun _ => none) [aS] = sg ⟨t, 0, -1⟩ := by
  funext k
  unfold syncF
  by_cases e : k = aS
  · subst e
    have h1 : inU [aS] aS = true := by simp [inU]
    rw [h1, sg_at]
    simp [foldU, stepU, upd]
  · have h1 : inU [aS] k = false := by simp [inU]; exact fun h => e h.symm
    rw [h1]
    unfold sg
    rw [upd_other _ e]
    rfl
theorem sg_count (t : Int) : (foldU t (fun _ => none) [aS]).2 = 1 := by simp [foldU, stepU]
theorem sg_upds (x : Fd) (G : Fd → Fd) : upds (sg x) [aS] G = sg (G x) := by
  funext k
  by_cases e : k = aS
  · subst e; rw [upds_in (by simp), sg_at, sg_at]; rfl
  · rw [upds_out (by simpa using e)]
    unfold sg
    rw [upd_other _ e, upd_other _ e]
theorem sg_isQ {x : Fd} {q : Fd → Bool} {k : ByteArray} : isQ (sg x) q k = true ↔ k = aS ∧ q x = true := by
  rw [isQ_iff]
  constructor
  · rintro ⟨y, hy, hq⟩
    obtain ⟨h1, rfl⟩ := sg_iff.1 hy
    exact ⟨h1, hq⟩
  · rintro ⟨rfl, hq⟩
    exact ⟨x, sg_at x, hq⟩
theorem nodup_one {ss : List ByteArray} (h : ss.Nodup) (ha : ∀ k ∈ ss, k = aS) : ss = [] ∨ ss = [aS] := by
  match ss, h, ha with
  | [], _, _ => exact .inl rfl
  | [k], _, ha => exact .inr (by rw [ha k (by simp)])
  | k :: l :: r, h, ha =>
    have e1 := ha k (by simp)
    have e2 := ha l (by simp)
    rw [List.nodup_cons] at h
    exact absurd (by rw [e1, e2]; simp) h.1
theorem sg_taken {t : Int} {x : Fd} {most : Int} {ss : List ByteArray} (h : Taken t (sg x) most ss) (hm : 1 ≤ most) : ss = if dueF t x then [aS] else [] := by
  obtain ⟨all, hnd, hiff, rfl⟩ := h
  cases hd : dueF t x with
  | false =>
    have : all = [] := List.eq_nil_iff_forall_not_mem.2 fun k hk => by
      have := (sg_isQ.1 ((hiff k).1 hk)).2
      rw [hd] at this
      cases this
    subst this
    simp
  | true =>
    have hm1 : aS ∈ all := (hiff aS).2 (sg_isQ.2 ⟨rfl, hd⟩)
    rcases nodup_one hnd (fun k hk => (sg_isQ.1 ((hiff k).1 hk)).1) with e | e
    · rw [e] at hm1; cases hm1
    · rw [e]
      have : cutN most 1 = 1 := by
        unfold cutN
        split <;> split at * <;> omega
      simp [this]
theorem Taken.nodup {t : Int} {f : PF} {most : Int} {ss : List ByteArray} (h : Taken t f most ss) : ss.Nodup := by
  obtain ⟨all, hnd, _, rfl⟩ := h
  exact hnd.sublist (List.take_sublist _ _)
/-- Take, where there is one feed alone. -/
theorem take_sg {B N p m : Nat} {t : Int} {x : Fd} {w : World} (h : PA B N p m t (sg x) w) (hN : N ≤ 100000) (now most : Int) (hm : 1 ≤ most) (hB : B ≤ w.heap.size) :
    Calls Try.prog 10 #[.pointer (some ⟨p, 0, none⟩), .int .i64 now, .int .i64 most] w fun e w' => ∃ v, e = .returned v ∧ Ls w.heap.size w' v (if dueF (ltr t now) x then [aS] else []) ∧ PA B N p m (ltr t now) (sg (if dueF (ltr t now) x then tkF (ltr t now) x else x)) w' ∧ Kp B w w' := by
  refine (p_Take.calls h hN now most (fun c base W v ss hT hL hnd hq _ _ => sort1 hT hL (by
    rcases nodup_one hnd (fun k hk => (sg_isQ.1 ((hq k).1 hk)).1) with e | e <;> rw [e] <;> simp)) hB).mono ?_
  rintro e w' ⟨v, ss, rfl, hL, hTk, _, hP, hK⟩
  have e1 := sg_taken hTk hm
  refine ⟨v, rfl, by rw [← e1]; exact hL, ?_, hK⟩
  rw [e1] at hP
  cases hd : dueF (ltr t now) x with
  | false => rw [hd] at hP; simpa [upds_nil] using hP
  | true => rw [hd] at hP; simpa [sg_upds] using hP
theorem C_one {g : Nat} {s : ByteArray} {w : World} (h : Blk.At g #[.string s] 9 w) : Kd.string.C w (some ⟨g, 0, none⟩) [s].length [s] := by
  refine ⟨rfl, by simp, fun _ => ⟨⟨g, 0, none⟩, rfl, fun j x hj => ?_⟩⟩
  have hj0 : j = 0 := by
    have := (List.getElem?_eq_some_iff.1 hj).1
    simp at this
    omega
  subst hj0
  simp only [List.getElem?_cons_zero, Option.some.injEq] at hj
  subst hj
  refine ⟨[.string s], rfl, rfl, fun i u hu => ?_⟩
  have hi0 : i = 0 := by
    have := (List.getElem?_eq_some_iff.1 hu).1
    simp at this
    omega
  subst hi0
  simp only [List.getElem?_cons_zero, Option.some.injEq] at hu
  subst hu
  exact h.cell 0
theorem C_one_kp {B g : Nat} {s : ByteArray} {w : World} (h : Blk.At g #[.string s] 9 w) : ∀ w', Kp B w w' → Kd.string.C w' (some ⟨g, 0, none⟩) [s].length [s] := fun w' hk => C_one (At.kp h (by decide) (by decide) hk)
set_option maxHeartbeats 1000000 in
/-- Two lists that hold the same texts. -/
theorem a_Texts.same {A A' : Option Addr} {c c' : Nat} {ss : List ByteArray} {w : World} (h : Kd.string.C w A ss.length ss) (h' : Kd.string.C w A' ss.length ss) :
    Calls Try.prog 21 #[.slice A ss.length c, .slice A' ss.length c'] w fun e w' => e = .returned (.bool true) ∧ Below w.heap.size w w' := by
  have H := Aside0.mk h
  have H' := Aside0.mk h'
  have HB0 := Aside0.mk (Below.refl w.heap.size w)
  clear h h'
  go_enter Try.func21, Try.ntmps21
  go_wp2_with fail
  go_loopw [5] (fun j wr => ∃ n : Nat, n ≤ ss.length ∧ j = .int .i64 n ∧ Aside0 (Below w.heap.size w wr)) (fun j _ => ss.length - (intOf j).toNat)
  case atStart => exact ⟨0, Nat.zero_le _, rfl, HB0⟩
  case round =>
    clear HB0
    obtain ⟨n, hn, rfl, HB⟩ := hrel
    by_cases hlt : n < ss.length
    · obtain ⟨ad, rfl, hcs⟩ := Kd.C_strings_cells (Kd.C_below H.out HB.out) (by omega)
      obtain ⟨ad', rfl, hcs'⟩ := Kd.C_strings_cells (Kd.C_below H'.out HB.out) (by omega)
      have hx0 : wr.cell? (ad.add n) = some (.string ss[n]) := hcs n _ (List.getElem?_eq_getElem hlt)
      have hx1 : wr.cell? (ad'.add n) = some (.string ss[n]) := hcs' n _ (List.getElem?_eq_getElem hlt)
      have en : wrap64 ((n : Int) + 1) = ((n + 1 : Nat) : Int) := w64n (by have := H.out.2.1; omega)
      generalize ss[n] = s at hx0 hx1
      clear hcs hcs'
      have HLT := Aside0.mk hlt
      go_wp2_with fail
      refine start_ (n := 9) (S := fun w' => w'.cell? (ad.add n) = some (.string s) ∧ w'.cell? (ad'.add n) = some (.string s)) (ds := []) #[false, false, false, false, false, false, false, false, false] (by kernel_rfl) rfl rfl ⟨hx0, hx1⟩ (fun hHeld => ?_)
      refine pure_ (i := 0) (N := some 17) (v := ?_) (a' := ?_) #[true, false, false, false, false, false, false, false, false] rfl rfl (by kernel_rfl) (fun _ _ _ h => h) (Or.inl ⟨by rfl, ?_⟩) ?_ ?_
      rotate_left
      · intro w'
        go_simp
        with_reducible rfl
      rotate_left
      · simp only [Act.put, List.setIfInBounds_toArray, List.set_cons_zero, List.set_cons_succ, i64_w, i32_w]
        rfl
      refine pure_ (i := 1) (N := some 18) (v := ?_) (a' := ?_) #[true, true, false, false, false, false, false, false, false] rfl rfl (by kernel_rfl) (fun _ _ _ h => h) (Or.inl ⟨by rfl, ?_⟩) ?_ ?_
      rotate_left
      · intro w'
        go_simp
        with_reducible rfl
      rotate_left
      · simp only [Act.put, List.setIfInBounds_toArray, List.set_cons_zero, List.set_cons_succ, i64_w, i32_w]
        rfl
      refine pure_ (i := 2) (N := some 19) (v := ?_) (a' := ?_) #[true, true, true, false, false, false, false, false, false] rfl rfl (by kernel_rfl) (fun _ _ _ h => h) (Or.inl ⟨by rfl, ?_⟩) ?_ ?_
      rotate_left
      · intro w'
        go_simp
        with_reducible rfl
      rotate_left
      · simp only [Act.put, List.setIfInBounds_toArray, List.set_cons_zero, List.set_cons_succ, i64_w, i32_w]
        rfl
      refine pure_ (i := 4) (N := some 21) (v := ?_) (a' := ?_) #[true, true, true, false, true, false, false, false, false] rfl rfl (by kernel_rfl) (fun _ _ _ h => h) (Or.inl ⟨by rfl, ?_⟩) ?_ ?_
      rotate_left
      · intro w'
        go_simp
        with_reducible rfl
      rotate_left
      · simp only [Act.put, List.setIfInBounds_toArray, List.set_cons_zero, List.set_cons_succ, i64_w, i32_w]
        rfl
      refine pure_ (i := 5) (N := some 22) (v := ?_) (a' := ?_) #[true, true, true, false, true, true, false, false, false] rfl rfl (by kernel_rfl) (fun _ _ _ h => h) (Or.inl ⟨by rfl, ?_⟩) ?_ ?_
      rotate_left
      · intro w'
        go_simp
        with_reducible rfl
      rotate_left
      · simp only [Act.put, List.setIfInBounds_toArray, List.set_cons_zero, List.set_cons_succ, i64_w, i32_w]
        rfl
      refine pure_ (i := 6) (N := some 23) (v := ?_) (a' := ?_) #[true, true, true, false, true, true, true, false, false] rfl rfl (by kernel_rfl) (fun _ _ _ h => h) (Or.inl ⟨by rfl, ?_⟩) ?_ ?_
      rotate_left
      · intro w'
        go_simp
        with_reducible rfl
      rotate_left
      · simp only [Act.put, List.setIfInBounds_toArray, List.set_cons_zero, List.set_cons_succ, i64_w, i32_w]
        rfl
      refine take_ (i := 3) (N := some 20) (v := ?_) (a' := ?_) #[true, true, true, true, true, true, true, false, false] rfl rfl (by kernel_rfl) (fun _ _ _ h => h) (Or.inl ⟨by rfl, ?_⟩) hHeld ?_ ?_
      rotate_left
      · rintro w' ⟨s0, s1⟩
        go_simp
        with_reducible rfl
      rotate_left
      · simp only [Act.put, List.setIfInBounds_toArray, List.set_cons_zero, List.set_cons_succ, i64_w, i32_w]
        rfl
      refine take_ (i := 7) (N := some 24) (v := ?_) (a' := ?_) #[true, true, true, true, true, true, true, true, false] rfl rfl (by kernel_rfl) (fun _ _ _ h => h) (Or.inl ⟨by rfl, ?_⟩) hHeld ?_ ?_
      rotate_left
      · rintro w' ⟨s0, s1⟩
        go_simp
        with_reducible rfl
      rotate_left
      · simp only [Act.put, List.setIfInBounds_toArray, List.set_cons_zero, List.set_cons_succ, i64_w, i32_w]
        rfl
      refine pure_ (i := 8) (N := some 25) (v := ?_) (a' := ?_) #[true, true, true, true, true, true, true, true, true] rfl rfl (by kernel_rfl) (fun _ _ _ h => h) (Or.inl ⟨by rfl, ?_⟩) ?_ ?_
      rotate_left
      · intro w'
        go_simp
        with_reducible rfl
      rotate_left
      · simp only [Act.put, List.setIfInBounds_toArray, List.set_cons_zero, List.set_cons_succ, i64_w, i32_w]
        rfl
      refine done_ (by kernel_rfl) ?_
      go_wp2_with fail
      rw [en]
      go_roundw
      case rel => exact ⟨n + 1, HLT.out, rfl, ⟨below_drew HB.out⟩⟩
      case measure => simp [intOf]; omega
    · obtain rfl : n = ss.length := by omega
      go_wp2_with fail
      go_ret
      exact ⟨rfl, HB.out⟩
theorem dueF_a : dueF 0 ⟨0, 0, -1⟩ = true := by decide
theorem wt_1 : wt 1 = 60 := by decide +kernel
theorem wt_2 : wt 2 = 120 := by decide +kernel
theorem dnF_a : dnF 0 false ⟨0, 0, 0⟩ = ⟨60, 1, -1⟩ := by simp [dnF, capT, wt_1]
theorem dueF_b : dueF 59 ⟨60, 1, -1⟩ = false := by decide
theorem dueF_c : dueF 60 ⟨60, 1, -1⟩ = true := by decide
theorem dnF_b : dnF 60 false ⟨60, 1, 60⟩ = ⟨180, 2, -1⟩ := by simp [dnF, capT, wt_2]
theorem ltr_00 : ltr 0 0 = 0 := by decide
theorem ltr_59 : ltr 0 59 = 59 := by decide
theorem ltr_60 : ltr 59 60 = 60 := by decide
theorem ltr_66 : ltr 60 60 = 60 := by decide
set_option maxHeartbeats 4000000 in
theorem law_alive.calls (w : World) : Calls Try.prog 7 #[] w fun e w' => e = .returned (.bool true) ∧ Below w.heap.size w w' := by
  have hN := p_New.calls w 0
  obtain ⟨B, hBe⟩ : ∃ B, B = w.heap.size := ⟨_, rfl⟩
  rw [← hBe] at hN ⊢
  have HBE := Aside0.mk hBe
  clear hBe
  go_enter Try.func7, Try.ntmps7
  go_wp2_with fail
  refine hN.mono ?_
  rintro e w1 ⟨rfl, hP, hb⟩
  have HB1 := Aside0.mk (show Below B w w1 ∧ B ≤ w1.heap.size from ⟨hb, HBE.out ▸ hb.size⟩)
  have hb2 := below_alloc (Below.refl _ w1) (.cells #[.string aS] 9)
  have hA2 := Blk.At.new w1 #[.string aS] 9
  have hSy := p_Sync.calls (hP.below hb2) 0 (C_one_kp hA2) (c := 1) (us := [aS]) (by intro u hu; rw [List.mem_singleton.1 hu]; exact aS_size) (by simp)
  have HB2 := Aside0.mk (show Below B w (w1.alloc (.cells #[.string aS] 9)) from HB1.out.1.trans (hb2.mono HB1.out.2))
  rw [ltr_00, sg_count, sg_sync] at hSy
  have HSY := Aside0.mk hSy
  clear hP hb hb2 hA2 hSy hN
  go_wp2_with fail
  refine HSY.out.mono ?_
  rintro e w3 ⟨rfl, hP, hK⟩
  have HB3 := Aside0.mk (show Below B w w3 ∧ B ≤ w3.heap.size from ⟨hK.base HB2.out (by rw [HBE.out]; exact HB2.out.size), by rw [HBE.out]; exact (hK.base HB2.out (by rw [HBE.out]; exact HB2.out.size)).size⟩)
  have hTk := take_sg hP (by simp) 0 1 (by decide) HB3.out.2
  rw [ltr_00, dueF_a] at hTk
  have HTK := Aside0.mk hTk
  clear hP hK hTk HSY HB2 HB1
  go_wp2_with fail
  refine HTK.out.mono ?_
  rintro e w4 ⟨v4, rfl, hL, hP, hK⟩
  have HB4 := Aside0.mk (show Below B w w4 ∧ B ≤ w4.heap.size from ⟨hK.base HB3.out.1 HB3.out.2, Nat.le_trans HB3.out.2 hK.size⟩)
  simp only [if_true] at hL hP
  obtain ⟨A4, c4, rfl⟩ := Kd.R_slice hL
  have hb5 := below_alloc (Below.refl _ w4) (.cells #[.string aS] 9)
  have hA5 := Blk.At.new w4 #[.string aS] 9
  have hTx := a_Texts.same (c := c4) (c' := 1) (Kd.V_reads' (Kd.R_V (base' := 0) (Ls.below hL hb5))).2.2 (C_one hA5)
  have HTX := Aside0.mk hTx
  have HP5 := Aside0.mk (hP.below hb5)
  have HB5 := Aside0.mk (show Below B w (w4.alloc (.cells #[.string aS] 9)) ∧ B ≤ (w4.alloc (.cells #[.string aS] 9)).heap.size from ⟨HB4.out.1.trans (hb5.mono HB4.out.2), Nat.le_trans HB4.out.2 hb5.size⟩)
  clear hL hP hK hb5 hA5 hTx HTK HB3 HB4
  go_wp2_with fail
  refine HTX.out.mono ?_
  rintro e w6 ⟨rfl, hb⟩
  have HB6 := Aside0.mk (show Below B w w6 ∧ B ≤ w6.heap.size from ⟨HB5.out.1.trans (hb.mono HB5.out.2), Nat.le_trans HB5.out.2 hb.size⟩)
  have hDn := p_Done2.calls (HP5.out.below hb) 0 aS_size false (sg_at _) (by decide) (by decide) (by decide)
  rw [ltr_00, sg_upd] at hDn
  have e1 : dnF 0 false (tkF 0 ⟨0, 0, -1⟩) = ⟨60, 1, -1⟩ := dnF_a
  rw [e1] at hDn
  have HDN := Aside0.mk hDn
  clear hb hDn e1 HP5 HB5 HTX
  go_wp2_with fail
  refine HDN.out.mono ?_
  rintro e w7 ⟨rfl, hP, hK⟩
  have HB7 := Aside0.mk (show Below B w w7 ∧ B ≤ w7.heap.size from ⟨hK.base HB6.out.1 HB6.out.2, Nat.le_trans HB6.out.2 hK.size⟩)
  have HP7 := Aside0.mk hP
  have HDU := Aside0.mk (p_Due.calls hP aS_size (sg_at _))
  clear hP hK HDN HB6
  go_wp2_with fail
  refine HDU.out.mono ?_
  rintro e w8 ⟨rfl, rfl⟩
  have hTk := take_sg HP7.out (by simp) 59 1 (by decide) HB7.out.2
  rw [ltr_59, dueF_b] at hTk
  have HTK := Aside0.mk hTk
  clear hTk HDU
  go_wp2_with fail
  refine HTK.out.mono ?_
  rintro e w9 ⟨v9, rfl, hL, hP, hK⟩
  have HB9 := Aside0.mk (show Below B w w9 ∧ B ≤ w9.heap.size from ⟨hK.base HB7.out.1 HB7.out.2, Nat.le_trans HB7.out.2 hK.size⟩)
  simp only [Bool.false_eq_true, if_false] at hL hP
  obtain ⟨A9, c9, rfl⟩ := Kd.R_slice hL
  have hTk := take_sg hP (by simp) 60 1 (by decide) HB9.out.2
  rw [ltr_60, dueF_c] at hTk
  have HTK2 := Aside0.mk hTk
  clear hTk hL hP hK HTK HP7 HB7
  go_wp2_with fail
  refine HTK2.out.mono ?_
  rintro e w10 ⟨v10, rfl, hL, hP, hK⟩
  have HB10 := Aside0.mk (show Below B w w10 ∧ B ≤ w10.heap.size from ⟨hK.base HB9.out.1 HB9.out.2, Nat.le_trans HB9.out.2 hK.size⟩)
  simp only [if_true] at hL hP
  obtain ⟨A10, c10, rfl⟩ := Kd.R_slice hL
  have hDn := p_Done2.calls hP 60 aS_size false (sg_at _) (by decide) (by decide) (by decide)
  rw [ltr_66, sg_upd] at hDn
  have e1 : dnF 60 false (tkF 60 ⟨60, 1, -1⟩) = ⟨180, 2, -1⟩ := dnF_b
  rw [e1] at hDn
  have HDN := Aside0.mk hDn
  clear hL hP hK hDn e1 HTK2 HB9
  go_wp2_with fail
  refine HDN.out.mono ?_
  rintro e w11 ⟨rfl, hP, hK⟩
  have HB11 := Aside0.mk (show Below B w w11 from hK.base HB10.out.1 HB10.out.2)
  have HDU := Aside0.mk (p_Due.calls hP aS_size (sg_at _))
  have HFA := Aside0.mk (p_Fails.calls hP aS_size (sg_at _))
  clear hP hK HDN HB10
  go_wp2_with fail
  refine HDU.out.mono ?_
  rintro e w12 ⟨rfl, rfl⟩
  go_wp2_with fail
  refine HFA.out.mono ?_
  rintro e w13 ⟨rfl, rfl⟩
  go_wp2_with fail
  go_ret
  exact ⟨rfl, HBE.out ▸ HB11.out⟩
end Go.Proofs.Ytomkjakffpomdaa.Q
