/- A desk's functions, walked: Verdict, Check. No condition but those typed. -/
import Derived.Test.YtnakiheekkpfdaaAw1
namespace Go.Proofs.Ytnakiheekkpfdaa.Q
open Go.RowKit Go.Maps Go.Sort Go.Shelf Go.Proofs.YtnakiheekkpfdaaW.PrintWords Go.Proofs.YtnakiheekkpfdaaW.PrintLast Go.Proofs.YtnakiheekkpfdaaW.PrintMore
attribute [local go_sem] max2_int min2_int max_two min_two max_three min_three max_four min_four   -- for this text's walks alone
set_option linter.unusedVariables false
set_option linter.unusedSimpArgs false
set_option maxRecDepth 100000
def inU (us : List ByteArray) (k : ByteArray) : Bool := us.any (fun y => decide (y = k))
theorem inU_snoc (us : List ByteArray) {n : Nat} (h : n < us.length) : inU (us.take (n + 1)) = fun k => decide (k = us[n]) || inU (us.take n) k := by
  funext k
  unfold inU
  rw [List.take_succ_eq_append_getElem h, List.any_append]
  simp only [List.any_cons, List.any_nil, Bool.or_false]
  rw [Bool.or_comm]
  congr 1
  simp [eq_comm]
theorem inU_iff {us : List ByteArray} {k : ByteArray} : inU us k = true ↔ k ∈ us := by
  simp [inU]
set_option maxHeartbeats 2000000 in
theorem a_Has.calls {A : Option Addr} {c : Nat} {ss : List ByteArray} {w : World} (h : Kd.string.C w A ss.length ss) (s : ByteArray) :
    Calls Try.prog 12 #[.slice A ss.length c, .string s] w fun e w' => e = .returned (.bool (inU ss s)) ∧ w' = w := by
  have H := Aside0.mk h
  clear h
  go_enter Try.func12, Try.ntmps12
  go_wp2_with fail
  go_loopw [5] (fun j wr => ∃ n : Nat, n ≤ ss.length ∧ j = .int .i64 n ∧ Aside0 (inU (ss.take n) s = false) ∧ Aside0 (wr = w)) (fun j _ => ss.length - (intOf j).toNat)
  case atStart => exact ⟨0, Nat.zero_le _, rfl, ⟨by simp [inU]⟩, ⟨rfl⟩⟩
  case round =>
    obtain ⟨n, hn, rfl, HI, HW⟩ := hrel
    by_cases hlt : n < ss.length
    · obtain ⟨ad, rfl, hcs⟩ := Kd.C_strings_cells H.out (by omega)
      have hx0 : wr.cell? (ad.add n) = some (.string ss[n]) := by rw [HW.out]; exact hcs n _ (List.getElem?_eq_getElem hlt)
      have en : wrap64 ((n : Int) + 1) = ((n + 1 : Nat) : Int) := w64n (by have := H.out.2.1; omega)
      have HN := Aside0.mk (inU_snoc ss hlt)
      have HM := Aside0.mk (show ss[n] = s → inU ss s = true from fun e => inU_iff.2 (e ▸ List.getElem_mem hlt))
      generalize ss[n] = x at hx0 HN HM
      have HLT := Aside0.mk hlt
      clear hcs
      by_cases hxs : x = s
      · subst hxs
        have hr := HM.out rfl
        have HR := Aside0.mk hr
        clear hr HN HM
        go_wp2_with fail
        go_ret
        exact ⟨by rw [HR.out]; rfl, HW.out⟩
      · have hb : (x.toList == s.toList) = false := by
          rw [ByteArray.toList_eq, ByteArray.toList_eq, beq_eq_false_iff_ne]
          exact fun e => hxs (ByteArray.ext (Array.toList_inj.1 e))
        have HNE := Aside0.mk (show inU (ss.take (n + 1)) s = false by
          rw [HN.out]
          show (decide (s = x) || inU (ss.take n) s) = false
          rw [HI.out]
          simp
          exact fun e => hxs e.symm)
        clear HM HN
        go_wp2_with fail
        rw [en]
        exact ⟨⟨n + 1, HLT.out, rfl, HNE, HW⟩, by simp [intOf]; omega⟩
    · obtain rfl : n = ss.length := by omega
      go_wp2_with fail
      go_ret
      rw [List.take_length] at HI
      exact ⟨by rw [HI.out]; rfl, HW.out⟩
set_option maxHeartbeats 2000000 in
theorem s_Index.calls {A : Option Addr} {c : Nat} {ss : List ByteArray} {w : World} (h : Kd.string.C w A ss.length ss) (s : ByteArray) :
    Calls Try.prog 47 #[.slice A ss.length c, .string s] w fun e w' => (∃ i : Int, e = .returned (.int .i64 i) ∧ decide (0 ≤ i) = inU ss s) ∧ w' = w := by
  have H := Aside0.mk h
  clear h
  go_enter Try.func47, Try.ntmps47
  go_wp2_with fail
  go_loopw [8] (fun j wr => ∃ n : Nat, n ≤ ss.length ∧ j = .int .i64 n ∧ Aside0 (inU (ss.take n) s = false) ∧ Aside0 (wr = w)) (fun j _ => ss.length - (intOf j).toNat)
  case atStart => exact ⟨0, Nat.zero_le _, rfl, ⟨by simp [inU]⟩, ⟨rfl⟩⟩
  case round =>
    obtain ⟨n, hn, rfl, HI, HW⟩ := hrel
    by_cases hlt : n < ss.length
    · obtain ⟨ad, rfl, hcs⟩ := Kd.C_strings_cells H.out (by omega)
      have hx0 : wr.cell? (ad.add n) = some (.string ss[n]) := by rw [HW.out]; exact hcs n _ (List.getElem?_eq_getElem hlt)
      have en : wrap64 ((n : Int) + 1) = ((n + 1 : Nat) : Int) := w64n (by have := H.out.2.1; omega)
      have HN := Aside0.mk (inU_snoc ss hlt)
      have HM := Aside0.mk (show ss[n] = s → inU ss s = true from fun e => inU_iff.2 (e ▸ List.getElem_mem hlt))
      generalize ss[n] = x at hx0 HN HM
      have HLT := Aside0.mk hlt
      clear hcs
      by_cases hxs : x = s
      · subst hxs
        have hr := HM.out rfl
        have HR := Aside0.mk hr
        clear hr HN HM
        go_wp2_with fail
        go_ret
        exact ⟨⟨n, rfl, by rw [HR.out]; exact decide_eq_true (by omega)⟩, HW.out⟩
      · have hb : (s.toList == x.toList) = false := by
          rw [ByteArray.toList_eq, ByteArray.toList_eq, beq_eq_false_iff_ne]
          exact fun e => hxs (ByteArray.ext (Array.toList_inj.1 e)).symm
        have HNE := Aside0.mk (show inU (ss.take (n + 1)) s = false by
          rw [HN.out]
          show (decide (s = x) || inU (ss.take n) s) = false
          rw [HI.out]
          simp
          exact fun e => hxs e.symm)
        clear HM HN
        go_wp2_with fail
        rw [en]
        exact ⟨⟨n + 1, HLT.out, rfl, HNE, HW⟩, by simp [intOf]; omega⟩
    · obtain rfl : n = ss.length := by omega
      go_wp2_with fail
      go_ret
      rw [List.take_length] at HI
      exact ⟨⟨-1, rfl, by rw [HI.out]; rfl⟩, HW.out⟩
theorem s_Contains.calls {A : Option Addr} {c : Nat} {ss : List ByteArray} {w : World} (h : Kd.string.C w A ss.length ss) (s : ByteArray) :
    Calls Try.prog 38 #[.slice A ss.length c, .string s] w fun e w' => e = .returned (.bool (inU ss s)) ∧ w' = w := by
  have hk := s_Index.calls (c := c) h s
  clear h
  go_enter Try.func38, Try.ntmps38
  go_wp2_with fail
  refine hk.mono ?_
  rintro e w1 ⟨⟨i, rfl, hi⟩, rfl⟩
  have HI := Aside0.mk hi
  clear hi hk
  go_wp2_with fail
  go_ret
  exact ⟨by rw [← HI.out]; rfl, rfl⟩
def star : ByteArray := ⟨#[42]⟩
/-- The verdict of a token that is known. -/
def vd (x : Tok) (sc : ByteArray) : Int := if x.bad then 2 else if sc = ⟨#[]⟩ ∨ inU x.ss sc = true ∨ inU x.ss star = true then 1 else 3
theorem str_ne {s : ByteArray} (h : ¬ s = ⟨#[]⟩) : (s.toList == []) = false := by
  rw [ByteArray.toList_eq, beq_eq_false_iff_ne]
  exact fun e => h (ByteArray.ext (Array.toList_inj.1 e))
set_option maxHeartbeats 2000000 in
theorem p_verdict.calls {x : Tok} {A : Option Addr} {c : Nat} {w : World} (h : Ls 0 w (.slice A x.ss.length c) x.ss) (sc : ByteArray) :
    Calls Try.prog 27 #[.agg (tokC x (.slice A x.ss.length c)), .string sc] w fun e w' => e = .returned (.int .i64 (vd x sc)) ∧ Below w.heap.size w w' := by
  have hb := below_alloc (Below.refl _ w) (.cells (tokC x (.slice A x.ss.length c)) 56)
  have hx := Blk.At.new w (tokC x (.slice A x.ss.length c)) 56
  have hC := Ls.C (Ls.below h hb)
  obtain ⟨g, hg⟩ : ∃ g, g = w.heap.size := ⟨_, rfl⟩
  obtain ⟨W, hW⟩ : ∃ W, W = w.alloc (.cells (tokC x (.slice A x.ss.length c)) 56) := ⟨_, rfl⟩
  rw [← hg] at hx
  rw [← hW] at hx hC hb
  have q0 : W.cell? ⟨g, 0, none⟩ = some (.bool x.bad) := hx.cell 0
  have q1 : W.cell? ⟨g, 1, none⟩ = some (.slice A x.ss.length c) := hx.cell 1
  have HB := Aside0.mk hb
  have H1 := Aside0.mk (s_Contains.calls (c := c) hC sc)
  have H2 := Aside0.mk (s_Contains.calls (c := c) hC star)
  clear h hb hx hC
  replace hW := hW.symm
  replace hg := hg.symm
  obtain ⟨r, hr⟩ : ∃ r, r = vd x sc := ⟨_, rfl⟩
  rw [← hr]
  have HV := Aside0.mk hr
  clear hr
  by_cases he : sc = ⟨#[]⟩
  · have HE := Aside0.mk he
    cases hbd : x.bad
    · obtain rfl : r = 1 := by rw [HV.out]; unfold vd; rw [if_neg (by rw [hbd]; exact Bool.false_ne_true), if_pos (.inl HE.out)]
      rw [hbd] at q0
      clear HV HE hbd
      subst he
      go_enter Try.func27, Try.ntmps27
      go_wp2_with fail
      go_ret
      exact ⟨rfl, HB.out⟩
    · obtain rfl : r = 2 := by rw [HV.out]; unfold vd; rw [if_pos hbd]
      rw [hbd] at q0
      clear HV HE hbd he
      go_enter Try.func27, Try.ntmps27
      go_wp2_with fail
      go_ret
      exact ⟨rfl, HB.out⟩
  · have hne := str_ne he
    have HE := Aside0.mk he
    clear he
    cases hbd : x.bad
    · rw [hbd] at q0
      have HBD := Aside0.mk hbd
      clear hbd
      cases h1 : inU x.ss sc
      · cases h2 : inU x.ss star
        · obtain rfl : r = 3 := by rw [HV.out]; unfold vd; rw [if_neg (by rw [HBD.out]; exact Bool.false_ne_true), if_neg (fun h => h.elim HE.out (fun h => h.elim (by rw [h1]; exact Bool.false_ne_true) (by rw [h2]; exact Bool.false_ne_true)))]
          rw [h1] at H1
          rw [h2] at H2
          clear HV HE HBD h1 h2
          go_enter Try.func27, Try.ntmps27
          go_wp2_with fail
          refine H1.out.mono ?_
          rintro e w1 ⟨rfl, rfl⟩
          go_wp2_with fail
          refine H2.out.mono ?_
          rintro e w1 ⟨rfl, rfl⟩
          go_wp2_with fail
          go_ret
          exact ⟨rfl, HB.out⟩
        · obtain rfl : r = 1 := by rw [HV.out]; unfold vd; rw [if_neg (by rw [HBD.out]; exact Bool.false_ne_true), if_pos (.inr (.inr h2))]
          rw [h1] at H1
          rw [h2] at H2
          clear HV HE HBD h1 h2
          go_enter Try.func27, Try.ntmps27
          go_wp2_with fail
          refine H1.out.mono ?_
          rintro e w1 ⟨rfl, rfl⟩
          go_wp2_with fail
          refine H2.out.mono ?_
          rintro e w1 ⟨rfl, rfl⟩
          go_wp2_with fail
          go_ret
          exact ⟨rfl, HB.out⟩
      · obtain rfl : r = 1 := by rw [HV.out]; unfold vd; rw [if_neg (by rw [HBD.out]; exact Bool.false_ne_true), if_pos (.inr (.inl h1))]
        rw [h1] at H1
        clear HV HE HBD h1 H2
        go_enter Try.func27, Try.ntmps27
        go_wp2_with fail
        refine H1.out.mono ?_
        rintro e w1 ⟨rfl, rfl⟩
        go_wp2_with fail
        go_ret
        exact ⟨rfl, HB.out⟩
    · obtain rfl : r = 2 := by rw [HV.out]; unfold vd; rw [if_pos hbd]
      rw [hbd] at q0
      clear HV HE hbd
      go_enter Try.func27, Try.ntmps27
      go_wp2_with fail
      go_ret
      exact ⟨rfl, HB.out⟩
/-- The verdict of a text and a scope. -/
def verd (kn : KF) (text sc : ByteArray) : Int := if text = ⟨#[]⟩ then 2 else match kn text with | some x => vd x sc | none => 4
set_option maxHeartbeats 2000000 in
theorem p_Verdict.calls {F : Nat → Prop} {N p : Nat} {t : Int} {kn : KF} {qs : AF} {w : World} (h : DA F N p t kn qs w) (now : Int) {text : ByteArray} (ht : text.size ≤ maxLen) (sc : ByteArray) :
    Calls Try.prog 16 #[.pointer (some ⟨p, 0, none⟩), .int .i64 now, .string text, .string sc] w fun e w' => e = .returned (.int .i64 (verd (expd (ltr t now) kn) text sc)) ∧ DA F N p (ltr t now) (expd (ltr t now) kn) qs w' ∧ Ku F w w' := by
  have hk := p_ok.calls h
  have hl := p_later.calls h now
  generalize ltr t now = t1 at *
  generalize expd t1 kn = kn1 at *
  have HT := Aside0.mk ht
  obtain ⟨r, hr⟩ : ∃ r, r = verd kn1 text sc := ⟨_, rfl⟩
  rw [← hr]
  have HV := Aside0.mk hr
  clear h ht hr
  go_enter Try.func16, Try.ntmps16
  go_wp2_with fail
  refine hk.mono ?_
  rintro e w1 ⟨rfl, rfl⟩
  go_wp2_with fail
  refine hl.mono ?_
  rintro e w2 ⟨rfl, ⟨mk, ma, sv, lv, Dk, Da, h⟩, hK⟩
  have x1 : w2.cell? ⟨p, 1, none⟩ = some (.map (some mk)) := h.pl.cell 1
  have hlk := h.lookK HT.out
  have HD := Aside0.mk h
  have HK := Aside0.mk hK
  clear hk hl hK h
  cases hkn : kn1 text with
  | none =>
    rw [hkn] at hlk
    have hb := below_alloc (Below.refl _ w2) (.cells #[.bool false, .slice none 0 0, .int .i64 0] 56)
    have HD3 := Aside0.mk (HD.out.st (F := F) (.of_below hb))
    have HK3 := Aside0.mk (HK.out.trans' (.of_below hb))
    have HKN := Aside0.mk hkn
    clear hb hkn HD HK
    by_cases he : text = ⟨#[]⟩
    · obtain rfl : r = 2 := by rw [HV.out]; unfold verd; rw [if_pos he]
      clear HV HT
      subst he
      go_wp2_with fail
      go_ret
      exact ⟨rfl, .of HD3.out, HK3.out⟩
    · obtain rfl : r = 4 := by rw [HV.out]; unfold verd; rw [if_neg he, HKN.out]
      have hne := str_ne he
      clear HV HT he
      go_wp2_with fail
      go_ret
      exact ⟨rfl, .of HD3.out, HK3.out⟩
  | some x =>
    rw [hkn] at hlk
    obtain ⟨Av, cv, hsv⟩ := Kd.R_slice (HD.out.lsK text x hkn)
    have hls := HD.out.lsK text x hkn
    rw [hsv] at hlk hls
    have hb := below_alloc (Below.refl _ w2) (.cells (tokC x (.slice Av x.ss.length cv)) 56)
    have HD3 := Aside0.mk (HD.out.st (F := F) (.of_below hb))
    have HK3 := Aside0.mk (HK.out.trans' (.of_below hb))
    have hX3 := Blk.At.new w2 (tokC x (.slice Av x.ss.length cv)) 56
    obtain ⟨g, hge⟩ : ∃ g, g = w2.heap.size := ⟨_, rfl⟩
    rw [← hge] at hX3
    have q0 : (w2.alloc (.cells (tokC x (.slice Av x.ss.length cv)) 56)).cell? ⟨g, 0, none⟩ = some (.bool x.bad) := hX3.cell 0
    have q1 : (w2.alloc (.cells (tokC x (.slice Av x.ss.length cv)) 56)).cell? ⟨g, 1, none⟩ = some (.slice Av x.ss.length cv) := hX3.cell 1
    have q2 : (w2.alloc (.cells (tokC x (.slice Av x.ss.length cv)) 56)).cell? ⟨g, 2, none⟩ = some (.int .i64 x.til) := hX3.cell 2
    have HVD := Aside0.mk (p_verdict.calls (Ls.below hls hb) sc)
    have HKN := Aside0.mk hkn
    clear hb hX3 hls hsv HD HK
    replace hge := hge.symm
    by_cases he : text = ⟨#[]⟩
    · obtain rfl : r = 2 := by rw [HV.out]; unfold verd; rw [if_pos he]
      clear HV HT HKN hkn
      subst he
      go_wp2_with fail
      go_ret
      exact ⟨rfl, .of HD3.out, HK3.out⟩
    · obtain rfl : r = vd x sc := by rw [HV.out]; unfold verd; rw [if_neg he, HKN.out]
      have hne := str_ne he
      clear HV HT he hkn
      go_wp2_with fail
      refine HVD.out.mono ?_
      rintro e w4 ⟨rfl, hb⟩
      have HD4 := Aside0.mk (HD3.out.st (F := F) (.of_below hb))
      have HK4 := Aside0.mk (HK3.out.trans' (.of_below hb))
      clear hb HVD
      go_wp2_with fail
      go_ret
      exact ⟨rfl, .of HD4.out, HK4.out⟩
theorem p_Verdict.dead {v : Value} {w : World} (h : Dead v w) (now : Int) (text sc : ByteArray) : Calls Try.prog 16 #[v, .int .i64 now, .string text, .string sc] w fun e w' => e = .returned (.int .i64 2) ∧ w' = w := by
  have hk := p_ok.dead h
  clear h
  go_enter Try.func16, Try.ntmps16
  go_wp2_with fail
  refine hk.mono ?_
  rintro e w1 ⟨rfl, rfl⟩
  go_wp2_with fail
  go_ret
  exact ⟨rfl, rfl⟩
/-! ### How many wait -/
def lenQ (qs : AF) (k : ByteArray) : Nat := ((qs k).getD []).length
def sumQ (qs : AF) (K : List ByteArray) : Nat := (K.map (lenQ qs)).sum
/-- So many wait. -/
def Tot (qs : AF) (n : Nat) : Prop := ∃ K : List ByteArray, K.Nodup ∧ (∀ k, k ∈ K ↔ (qs k).isSome = true) ∧ sumQ qs K = n
theorem sumQ_more (qs : AF) {f : ByteArray → Bool} {x : ByteArray} : ∀ {K : List ByteArray}, K.Nodup → x ∈ K → f x = false → sumQ qs (K.filter fun k => f k || decide (k = x)) = sumQ qs (K.filter f) + lenQ qs x
  | [], _, h, _ => by cases h
  | k :: r, hn, h, hf => by
    rw [List.nodup_cons] at hn
    by_cases e : k = x
    · subst e
      have h1 : r.filter (fun y => f y || decide (y = k)) = r.filter f := List.filter_congr fun y hy => by
        have : y ≠ k := fun e => hn.1 (e ▸ hy)
        simp [this]
      simp only [List.filter_cons, hf, h1, decide_true, Bool.or_true, if_true, Bool.false_eq_true, if_false]
      unfold sumQ
      simp only [List.map_cons, List.sum_cons]
      omega
    · have h2 := sumQ_more qs hn.2 ((List.mem_cons.1 h).resolve_left (fun e2 => e e2.symm)) hf
      simp only [List.filter_cons, e, decide_false, Bool.or_false]
      cases f k
      · simpa using h2
      · unfold sumQ at h2 ⊢
        simp only [if_true, List.map_cons, List.sum_cons, h2]
        omega
theorem sumQ_filter (qs : AF) (f : ByteArray → Bool) : ∀ K : List ByteArray, sumQ qs (K.filter f) ≤ sumQ qs K
  | [] => Nat.le_refl _
  | k :: r => by
    have := sumQ_filter qs f r
    rw [List.filter_cons]
    unfold sumQ at *
    split
    · simp only [List.map_cons, List.sum_cons]
      omega
    · simp only [List.map_cons, List.sum_cons]
      omega
theorem Tot.fun {qs : AF} {n m : Nat} (h : Tot qs n) (h' : Tot qs m) : n = m := by
  obtain ⟨K, h1, h2, rfl⟩ := h
  obtain ⟨K', h1', h2', rfl⟩ := h'
  have hp : K.Perm K' := (List.perm_ext_iff_of_nodup h1 h1').2 fun k => (h2 k).trans (h2' k).symm
  exact (hp.map (lenQ qs)).sum_nat
theorem sumQ_congr {qs qs' : AF} : ∀ {K : List ByteArray}, (∀ k ∈ K, lenQ qs k = lenQ qs' k) → sumQ qs K = sumQ qs' K := fun {K} h => by
  unfold sumQ
  rw [List.map_congr_left h]
theorem Tot.none_ : Tot (fun _ => none) 0 := ⟨[], List.nodup_nil, fun k => by simp, rfl⟩
/-- One key's list is another one now. -/
theorem Tot.set_ {qs : AF} {n : Nat} (h : Tot qs n) (s : ByteArray) (l : Option (List Int)) : Tot (upd qs s l) (n - lenQ qs s + (l.getD []).length) ∧ lenQ qs s ≤ n := by
  obtain ⟨K, hn, hK, rfl⟩ := h
  have hsplit : sumQ qs (K.filter fun k => decide (k ≠ s)) + lenQ qs s = sumQ qs K := by
    by_cases hm : s ∈ K
    · have := sumQ_more qs (f := fun k => decide (k ≠ s)) hn hm (by simp)
      rw [← this]
      congr 1
      refine (List.filter_eq_self.2 fun k _ => ?_).symm.trans rfl |>.symm
      by_cases e : k = s <;> simp [e]
    · have h1 : lenQ qs s = 0 := by
        unfold lenQ
        cases hq : qs s with
        | none => rfl
        | some l => exact absurd ((hK s).2 (by rw [hq]; rfl)) hm
      rw [h1, List.filter_eq_self.2 (fun k hk => by
        have : k ≠ s := fun e => hm (e ▸ hk)
        simp [this])]
      rfl
  have hle : lenQ qs s ≤ sumQ qs K := by omega
  have hoth : sumQ (upd qs s l) (K.filter fun k => decide (k ≠ s)) = sumQ qs (K.filter fun k => decide (k ≠ s)) := sumQ_congr fun k hk => by
    have : k ≠ s := by simpa using (List.mem_filter.1 hk).2
    unfold lenQ
    rw [upd_other _ this]
  refine ⟨?_, hle⟩
  cases l with
  | none =>
    refine ⟨K.filter fun k => decide (k ≠ s), hn.filter _, fun k => ?_, ?_⟩
    · by_cases e : k = s
      · subst e
        rw [upd_same]
        simp
      · rw [upd_other _ e, List.mem_filter, hK k]
        simp [e]
    · rw [hoth]
      show _ = sumQ qs K - lenQ qs s + 0
      omega
  | some l =>
    refine ⟨s :: K.filter fun k => decide (k ≠ s), List.nodup_cons.2 ⟨by simp, hn.filter _⟩, fun k => ?_, ?_⟩
    · by_cases e : k = s
      · subst e
        rw [upd_same]
        simp
      · rw [upd_other _ e, List.mem_cons, List.mem_filter, hK k]
        simp [e]
    · show sumQ _ (s :: _) = _
      unfold sumQ
      rw [List.map_cons, List.sum_cons]
      have : lenQ (upd qs s (some l)) s = l.length := by unfold lenQ; rw [upd_same]; rfl
      rw [this]
      unfold sumQ at hoth hsplit hle
      rw [hoth]
      simp only [Option.getD_some]
      omega
set_option maxHeartbeats 4000000 in
theorem p_waiting.calls {F : Nat → Prop} {N p n : Nat} {t : Int} {kn : KF} {qs : AF} {w : World} (h : DA F N p t kn qs w) (hn : Tot qs n) (hN : n ≤ 1000000) :
    Calls Try.prog 24 #[.pointer (some ⟨p, 0, none⟩)] w fun e w' => e = .returned (.int .i64 n) ∧ Below w.heap.size w w' := by
  obtain ⟨mk, ma, sv, lv, Dk, Da, h⟩ := h
  obtain ⟨K, hnd, hK, rfl⟩ := hn
  have hown := h.ownA
  have x1 : w.cell? ⟨p, 2, none⟩ = some (.map (some ma)) := h.pl.cell 2
  have H := Aside0.mk h
  obtain ⟨r, hr⟩ : ∃ r, r = w.heap.size := ⟨_, rfl⟩
  have HR := Aside0.mk hr
  have HKD := Aside0.mk (And.intro hnd hK)
  have HN := Aside0.mk hN
  clear h hN hnd hK
  go_enter Try.func24, Try.ntmps24
  go_wp2_with (at_range; refine wpList_range_own _ rfl _ 48 rfl 9 31 key9 Try.underlying48 RV ma N Da rfl hown ?_; intro wa hrg0 hg0 hs0; rw [← hr]; rw [← hr] at hrg0)
  go_frame
  have HRG0 := Aside0.mk hrg0
  have HB0 := Aside0.mk (show w.grownBy wa (some r) from hg0.but _)
  have HS0 := Aside0.mk (show Aside0 (∀ k ∈ K, Maps.has Da (kl k) = true) from ⟨fun k hk => by rw [H.out.hasA k]; exact (HKD.out.2 k).1 hk⟩)
  have H00 := Aside0.mk (show sumQ qs (K.filter fun k => !Maps.has Da (kl k)) = 0 by
    rw [List.filter_eq_nil_iff.2 fun k hk => by rw [HS0.out.out k hk]; simp]
    rfl)
  clear hrg0 hg0 hs0 hr hown x1
  go_loopw [3, 11] (fun v _ wq => ∃ left cnt c, v = .int .i64 (c : Nat) ∧ Aside0 (wq.ranges Try.prog 9 RV ma r N Da left cnt) ∧ Aside0 (w.grownBy wq (some r)) ∧ Aside0 (sumQ qs (K.filter fun k => !left (kl k)) = c ∧ ∀ k, left (kl k) = true → (qs k).isSome = true)) (fun _ _ wq => wq.rangeLeft ma r)
  case atStart => exact ⟨_, _, 0, rfl, HRG0, HB0, ⟨H00.out, fun k hk => by rw [← H.out.hasA k]; exact hk⟩⟩
  case round =>
    clear HRG0 HB0 HS0 H00
    obtain ⟨left, cnt, c, rfl, HRG, HB, HS⟩ := hrel
    have hrg := HRG.out
    go_wp2_with (at_next; refine wpList_next_ranges _ rfl _ rfl 9 key9 RV Value.string (fun v => v) key_string (fun v y _ => ⟨v, rfl⟩) ma r N _ _ _ rfl hrg ?_ ?_)
    · intro hc0 hl0
      go_wp2_with fail
      go_ret
      have e1 : c = sumQ qs K := by
        rw [← HS.out.1, List.filter_eq_self.2 fun k _ => by rw [hl0]; rfl]
      exact ⟨by rw [e1]; rfl, HB.out.os, HB.out.tape, HB.out.output, HB.out.size, fun i hi => HB.out.block i hi (fun e => by cases e; have := HR.out; omega)⟩
    · intro x v kl' yd yp w5 cnt2 hkey hlk hv hat hrg2 hlt hg2 hs2 hen
      obtain ⟨rfl, hxs⟩ := keyOf9_inv hkey
      obtain ⟨l, hl⟩ := Option.isSome_iff_exists.1 (HS.out.2 x hlk)
      obtain rfl : v = lv x := by
        have e0 : DataW.held v = yd := congrArg Prod.fst (Option.some.inj hv)
        have h1 := (H.out.atA x l hl .nil).symm.trans (hat .nil)
        rw [← e0] at h1
        exact (DataW.held.inj h1).symm
      obtain ⟨Av, cv, hsv⟩ := Kd.R_slice (H.out.lsA x l hl (by simp))
      rw [hsv] at hen
      have hm : x ∈ K := (HKD.out.2 x).2 (by rw [hl]; rfl)
      have hsum := sumQ_more qs (f := fun k => !left (kl k)) HKD.out.1 hm (by simp [hlk])
      have hlx : lenQ qs x = l.length := by unfold lenQ; rw [hl]; rfl
      have hle : sumQ qs (K.filter fun k => !left (kl k) || decide (k = x)) ≤ sumQ qs K := by
        exact sumQ_filter qs _ K
      have ea : wrap64 ((c : Int) + (l.length : Int)) = ((c + l.length : Nat) : Int) := by
        have := HS.out.1
        have := HN.out
        unfold wrap64
        omega
      have HRG2 := Aside0.mk hrg2
      have HB2 := Aside0.mk (HB.out.trans hg2)
      have HLT := Aside0.mk hlt
      have HS2 := Aside0.mk (show sumQ qs (K.filter fun k => !(left (kl k) && !(kl k).sameKey (kl x))) = c + l.length ∧ ∀ k, (left (kl k) && !(kl k).sameKey (kl x)) = true → (qs k).isSome = true from by
        refine ⟨?_, fun k hk => HS.out.2 k (by simp at hk; exact hk.1)⟩
        rw [← HS.out.1, ← hlx, ← hsum]
        congr 1
        refine List.filter_congr fun k _ => ?_
        rw [kl_same]
        simp)
      clear hrg2 hg2 hlt hs2 hat hv hkey hxs hsv hm hsum hle hlk hl hlx
      go_wp2_with fail
      rw [ea]
      refine ⟨⟨_, _, _, rfl, HRG2, HB2, HS2⟩, ?_⟩
      rw [HRG2.out.left_eq, hrg.left_eq]
      exact HLT.out
/-! ### Who waits for a text -/
/-- The row that stands for a text: none, or the map's. -/
def RowOf (qs : AF) (lv : ByteArray → Value) (s : ByteArray) (V : Value) (l : List Int) : Prop := (qs s = none ∧ V = .slice none 0 0 ∧ l = []) ∨ (qs s = some l ∧ V = lv s)
section
variable {F G : Nat → Prop} {s : ByteArray} {N p mk ma : Nat} {sv lv : ByteArray → Value} {Dk Da : DataW Value} {t : Int} {kn : KF} {qs : AF} {w w' : World}
theorem Dq.rowOf (h : Dq F none N p mk ma sv lv Dk Da t kn qs w) (s : ByteArray) : ∃ V l, RowOf qs lv s V l ∧ rowV qs lv s = V ∧ Is w F V l ∧ (qs s).getD [] = l ∧ l.length ≤ N := by
  unfold rowV
  cases hq : qs s with
  | none => exact ⟨_, [], .inl ⟨hq, rfl, rfl⟩, rfl, Kd.R_nil _ _ _ _ _, rfl, Nat.zero_le _⟩
  | some l => exact ⟨_, l, .inr ⟨hq, rfl⟩, rfl, h.lsA s l hq (by simp), rfl, h.few s l hq⟩
theorem Dq.turnOf (h : Dq F none N p mk ma sv lv Dk Da t kn qs w) {V : Value} {l : List Int} (hV : RowOf qs lv s V l) (g : w.grownBy w' V.ownBlock) : Dq F (some s) N p mk ma sv lv Dk Da t kn qs w' ∧ Ku F w w' := by
  rcases hV with ⟨hq, rfl, rfl⟩ | ⟨hq, rfl⟩
  · have hb : w.grownBy w' none := g
    exact ⟨(h.st (St.grown hb fun j hj => by cases hj)).weak s, Ku.grown hb fun j hj => by cases hj⟩
  · refine ⟨h.turn hq g, Ku.grown g fun j hj => ?_⟩
    obtain ⟨h1, _, _, _, _, cs, hc⟩ := h.row hq (by simp) hj
    exact .inr ⟨h1, _, hc, .inr rfl⟩
theorem Dq.apart (h : Dq F none N p mk ma sv lv Dk Da t kn qs w) {V v1 : Value} {l : List Int} (hV : RowOf qs lv s V l) (hat : v1.ownBlock = V.ownBlock ∨ ∃ b, v1.ownBlock = some b ∧ w.heap.size ≤ b) : ∀ k l' b, qs k = some l' → k ≠ s → (lv k).ownBlock = some b → v1.ownBlock ≠ some b := by
  intro k l' b hk hne hb hv
  rcases hat with e | ⟨b', e, hb'⟩
  · rcases hV with ⟨hq, rfl, rfl⟩ | ⟨hq, rfl⟩
    · rw [e] at hv
      cases hv
    · rw [e] at hv
      exact hne (h.inj k s l' l b hk hq (by simp) (by simp) hb hv)
  · rw [e] at hv
    cases hv
    have := (h.row hk (by simp) hb).2.1
    omega
/-- The map's word for the row. -/
theorem Dq.put (h : Dq F (some s) N p mk ma sv lv Dk Da t kn qs w) {v : Value} {l : List Int} (hs : s.size ≤ maxLen) (hN : N ≤ 1000000) (hl : l.length ≤ N + 1) (hv : Is w F v l) (hd : ∀ k l' b, qs k = some l' → k ≠ s → (lv k).ownBlock = some b → v.ownBlock ≠ some b) :
    ∃ w', (Instr.mapUpdate 48 (.map (some ma)) (.string s) v).run Try.prog w = .ok () w' ∧ DA F (N + 1) p t kn (upd qs s (some l)) w' ∧ Ku F w w' := by
  obtain ⟨w', hrun, ho, hg⟩ := h.ownA.store key9 Try.underlying48 (by unfold maxLen; omega) (keyOf9 hs) (val := v) (d := .held v) (ps := []) rfl
  have hg' := hg.grown
  have hk : ∀ (j : Nat) (o : Obj), w.heap[j]? = some o → j ≠ ma → w'.heap[j]? = some o := fun j o ho hne => (hg'.block j (Array.getElem?_eq_some_iff.1 ho).1 (fun e => hne (by cases e; rfl))).trans ho
  refine ⟨w', hrun, .of (h.ask (Nat.le_succ N) hl ho hk ?_ hd), Ku.grown hg' fun j hj => by cases hj; exact .inr ⟨h.foot.2.2, h.map_a⟩⟩
  refine Kd.R_mono (Kd.R_step (Kd.R_bound hv) fun i hi hlt => ?_) fun i hi => hi.1
  obtain ⟨_, _, _, q, hq, cs, hc⟩ := hi
  obtain rfl : q = 3 := by simpa [Kd.int, Kd.scalar] using hq
  rw [hc]
  refine hk i _ hc fun e => ?_
  obtain ⟨es, cl, hb⟩ := own_block h.ownA
  rw [e, hb] at hc
  cases hc
end
theorem p_Check.dead {v : Value} {w : World} (h : Dead v w) (now : Int) (text sc : ByteArray) (i : Int) : Calls Try.prog 15 #[v, .int .i64 now, .string text, .string sc, .int .i64 i] w fun e w' => e = .returned (.tuple #[.int .i64 2, .int .i64 2]) ∧ w' = w := by
  have hk := p_ok.dead h
  clear h
  go_enter Try.func15, Try.ntmps15
  go_wp2_with fail
  refine hk.mono ?_
  rintro e w1 ⟨rfl, rfl⟩
  go_wp2_with fail
  go_ret2
  exact ⟨rfl, rfl⟩
theorem p_Check0.calls {F : Nat → Prop} {N p : Nat} {t : Int} {kn : KF} {qs : AF} {w : World} (h : DA F N p t kn qs w) (now : Int) {text : ByteArray} (ht : text.size ≤ maxLen) (sc : ByteArray) (i : Int) (hv : ¬ verd (expd (ltr t now) kn) text sc = 4) :
    Calls Try.prog 15 #[.pointer (some ⟨p, 0, none⟩), .int .i64 now, .string text, .string sc, .int .i64 i] w fun e w' => e = .returned (.tuple #[.int .i64 (verd (expd (ltr t now) kn) text sc), .int .i64 0]) ∧ DA F N p (ltr t now) (expd (ltr t now) kn) qs w' ∧ Ku F w w' := by
  have hk := p_ok.calls h
  have hc := p_Verdict.calls h now ht sc
  generalize ltr t now = t1 at *
  generalize expd t1 kn = kn1 at *
  generalize verd kn1 text sc = v at *
  have hne : (v == 4) = false := by simp [hv]
  clear h ht hv
  go_enter Try.func15, Try.ntmps15
  go_wp2_with fail
  refine hk.mono ?_
  rintro e w1 ⟨rfl, rfl⟩
  go_wp2_with fail
  refine hc.mono ?_
  rintro e w2 ⟨rfl, h⟩
  have HH := Aside0.mk h
  clear h hc
  go_wp2_with fail
  go_ret2
  exact ⟨rfl, HH.out⟩
theorem p_Check1.calls {F : Nat → Prop} {N p : Nat} {t : Int} {kn : KF} {qs : AF} {w : World} (h : DA F N p t kn qs w) (hn : Tot qs 64) (now : Int) {text : ByteArray} (ht : text.size ≤ maxLen) (sc : ByteArray) (i : Int) (hv : verd (expd (ltr t now) kn) text sc = 4) :
    Calls Try.prog 15 #[.pointer (some ⟨p, 0, none⟩), .int .i64 now, .string text, .string sc, .int .i64 i] w fun e w' => e = .returned (.tuple #[.int .i64 0, .int .i64 5]) ∧ DA F N p (ltr t now) (expd (ltr t now) kn) qs w' ∧ Ku F w w' := by
  have hk := p_ok.calls h
  have hc := p_Verdict.calls h now ht sc
  rw [hv] at hc
  generalize ltr t now = t1 at *
  generalize expd t1 kn = kn1 at *
  have HN := Aside0.mk hn
  clear h ht hv hn
  go_enter Try.func15, Try.ntmps15
  go_wp2_with fail
  refine hk.mono ?_
  rintro e w1 ⟨rfl, rfl⟩
  go_wp2_with fail
  refine hc.mono ?_
  rintro e w2 ⟨rfl, h, hK⟩
  have hw := p_waiting.calls h HN.out (by decide)
  have HH := Aside0.mk (And.intro h hK)
  clear h hK hc
  go_wp2_with fail
  refine hw.mono ?_
  rintro e w3 ⟨rfl, hb⟩
  have HB := Aside0.mk hb
  clear hb hw
  go_wp2_with fail
  go_ret2
  exact ⟨rfl, HH.out.1.below HB.out, HH.out.2.trans' (.of_below HB.out)⟩
set_option maxHeartbeats 4000000 in
theorem p_Check2.calls {F : Nat → Prop} {N p n : Nat} {t : Int} {kn : KF} {qs : AF} {w : World} (h : DA F N p t kn qs w) (hn : Tot qs n) (hn64 : n ≠ 64) (hnN : n ≤ 1000000) (hN : N ≤ 100000) (now : Int) {text : ByteArray} (ht : text.size ≤ maxLen) (sc : ByteArray) (i : Int) (hv : verd (expd (ltr t now) kn) text sc = 4) :
    Calls Try.prog 15 #[.pointer (some ⟨p, 0, none⟩), .int .i64 now, .string text, .string sc, .int .i64 i] w fun e w' => e = .returned (.tuple #[.int .i64 (if (qs text).getD [] = [] then 4 else 5), .int .i64 0]) ∧ DA (Gr F w) (N + 1) p (ltr t now) (expd (ltr t now) kn) (upd qs text (some ((qs text).getD [] ++ [i]))) w' ∧ Ku F w w' := by
  have hk := p_ok.calls h
  have hc := p_Verdict.calls h now ht sc
  rw [hv] at hc
  generalize ltr t now = t1 at *
  generalize expd t1 kn = kn1 at *
  have HN := Aside0.mk (And.intro hn hnN)
  have HNN := Aside0.mk hN
  have HT := Aside0.mk ht
  obtain ⟨l, hle⟩ : ∃ l, l = (qs text).getD [] := ⟨_, rfl⟩
  rw [← hle]
  obtain ⟨rr, hrr⟩ : ∃ rr : Int, rr = if l = [] then 4 else 5 := ⟨_, rfl⟩
  rw [← hrr]
  have HRR := Aside0.mk hrr
  have HLE := Aside0.mk hle
  clear hle hrr
  have hne64 : ((n : Int) == 64) = false := by
    rw [beq_eq_false_iff_ne]
    omega
  clear h ht hv hn hN hnN hn64
  go_enter Try.func15, Try.ntmps15
  go_wp2_with fail
  refine hk.mono ?_
  rintro e w1 ⟨rfl, rfl⟩
  go_wp2_with fail
  refine hc.mono ?_
  rintro e w2 ⟨rfl, h, hK⟩
  have hw := p_waiting.calls h HN.out.1 HN.out.2
  have HH := Aside0.mk (And.intro h hK)
  clear h hK hc
  go_wp2_with fail
  refine hw.mono ?_
  rintro e w3 ⟨rfl, hb⟩
  obtain ⟨mk, ma, sv, lv, Dk, Da, h⟩ := HH.out.1.below hb
  have HK3 := Aside0.mk (HH.out.2.trans' (.of_below hb))
  clear hb hw HH
  have x2 : w3.cell? ⟨p, 2, none⟩ = some (.map (some ma)) := h.pl.cell 2
  obtain ⟨V, l', hV, hVe, hI, hg, hl⟩ := h.rowOf text
  obtain rfl : l = l' := by rw [HLE.out, hg]
  have hlk := h.lookA0 HT.out
  rw [hVe] at hlk
  obtain ⟨A, c, rfl⟩ := Kd.R_slice hI
  have HVE := Aside0.mk hVe
  have hDd : Dq (Gr F w1) none N p mk ma sv lv Dk Da t1 kn1 qs w3.drew := (h.mono fun _ e => .inl e).st (.of_below (below_drew (Below.refl _ _)))
  have hDa : Dq (Gr F w1) none N p mk ma sv lv Dk Da t1 kn1 qs (w3.alloc (.cells #[.int .i64 i] 3)).drew := (h.mono fun _ e => .inl e).st (.of_below (below_drew (below_alloc (Below.refl _ _) _)))
  have HD := Aside0.mk hDd
  have HV := Aside0.mk hV
  have HI := Aside0.mk (show Is w3.drew (Gr F w1) (.slice A l.length c) l from Kd.R_mono (Kd.R_below hI (below_drew (Below.refl _ _))) fun _ e => .inl e)
  have HL := Aside0.mk hl
  have x2a : (w3.alloc (.cells #[.int .i64 i] 3)).drew.cell? ⟨p, 2, none⟩ = some (.map (some ma)) := hDa.pl.cell 2
  have hlka := hDa.lookA0 HT.out
  have hlkd := hDd.lookA0 HT.out
  rw [hVe] at hlka hlkd
  clear h hV hVe hI hg hl hDd hDa
  by_cases hl0 : l = []
  · obtain rfl : rr = 4 := by rw [HRR.out, if_pos hl0]
    have hlt : ¬ (0 < (l.length : Int)) := by rw [hl0]; simp
    clear hl0 HRR
    go_wp2_with fail
    refine start_ (n := 15) (S := fun w' => w'.cell? ⟨p, 2, none⟩ = some (.map (some ma)) ∧ (Instr.lookup 48 (.map (some ma)) (.string text) false).run Try.prog w' = .ok (.slice A l.length c) w') (ds := [14]) #[false, false, false, false, false, false, false, false, false, false, false, false, false, false, false] (by kernel_rfl) rfl rfl ⟨x2, hlkd⟩ (fun hHeld => ?_)
    refine pure_ (i := 0) (N := some 35) (v := ?_) (a' := ?_) #[true, false, false, false, false, false, false, false, false, false, false, false, false, false, false] rfl rfl (by kernel_rfl) (fun _ _ _ h => h) (Or.inl ⟨by rfl, ?_⟩) ?_ ?_
    rotate_left
    · intro w'
      go_simp
      with_reducible rfl
    rotate_left
    · simp only [Act.put, List.setIfInBounds_toArray, List.set_cons_zero, List.set_cons_succ, i64_w, i32_w]
      rfl
    refine pure_ (i := 1) (N := some 36) (v := ?_) (a' := ?_) #[true, true, false, false, false, false, false, false, false, false, false, false, false, false, false] rfl rfl (by kernel_rfl) (fun _ _ _ h => h) (Or.inl ⟨by rfl, ?_⟩) ?_ ?_
    rotate_left
    · intro w'
      go_simp
      with_reducible rfl
    rotate_left
    · simp only [Act.put, List.setIfInBounds_toArray, List.set_cons_zero, List.set_cons_succ, i64_w, i32_w]
      rfl
    refine pure_ (i := 2) (N := some 37) (v := ?_) (a' := ?_) #[true, true, true, false, false, false, false, false, false, false, false, false, false, false, false] rfl rfl (by kernel_rfl) (fun _ _ _ h => h) (Or.inl ⟨by rfl, ?_⟩) ?_ ?_
    rotate_left
    · intro w'
      go_simp
      with_reducible rfl
    rotate_left
    · simp only [Act.put, List.setIfInBounds_toArray, List.set_cons_zero, List.set_cons_succ, i64_w, i32_w]
      rfl
    refine pure_ (i := 4) (N := some 39) (v := ?_) (a' := ?_) #[true, true, true, false, true, false, false, false, false, false, false, false, false, false, false] rfl rfl (by kernel_rfl) (fun _ _ _ h => h) (Or.inl ⟨by rfl, ?_⟩) ?_ ?_
    rotate_left
    · intro w'
      go_simp
      with_reducible rfl
    rotate_left
    · simp only [Act.put, List.setIfInBounds_toArray, List.set_cons_zero, List.set_cons_succ, i64_w, i32_w]
      rfl
    refine pure_ (i := 5) (N := some 40) (v := ?_) (a' := ?_) #[true, true, true, false, true, true, false, false, false, false, false, false, false, false, false] rfl rfl (by kernel_rfl) (fun _ _ _ h => h) (Or.inl ⟨by rfl, ?_⟩) ?_ ?_
    rotate_left
    · intro w'
      go_simp
      with_reducible rfl
    rotate_left
    · simp only [Act.put, List.setIfInBounds_toArray, List.set_cons_zero, List.set_cons_succ, i64_w, i32_w]
      rfl
    refine pure_ (i := 6) (N := some 41) (v := ?_) (a' := ?_) #[true, true, true, false, true, true, true, false, false, false, false, false, false, false, false] rfl rfl (by kernel_rfl) (fun _ _ _ h => h) (Or.inl ⟨by rfl, ?_⟩) ?_ ?_
    rotate_left
    · intro w'
      go_simp
      with_reducible rfl
    rotate_left
    · simp only [Act.put, List.setIfInBounds_toArray, List.set_cons_zero, List.set_cons_succ, i64_w, i32_w]
      rfl
    refine pure_ (i := 7) (N := some 42) (v := ?_) (a' := ?_) #[true, true, true, false, true, true, true, true, false, false, false, false, false, false, false] rfl rfl (by kernel_rfl) (fun _ _ _ h => h) (Or.inl ⟨by rfl, ?_⟩) ?_ ?_
    rotate_left
    · intro w'
      go_simp
      with_reducible rfl
    rotate_left
    · simp only [Act.put, List.setIfInBounds_toArray, List.set_cons_zero, List.set_cons_succ, i64_w, i32_w]
      rfl
    refine pure_ (i := 9) (N := some 44) (v := ?_) (a' := ?_) #[true, true, true, false, true, true, true, true, false, true, false, false, false, false, false] rfl rfl (by kernel_rfl) (fun _ _ _ h => h) (Or.inl ⟨by rfl, ?_⟩) ?_ ?_
    rotate_left
    · intro w'
      go_simp
      with_reducible rfl
    rotate_left
    · simp only [Act.put, List.setIfInBounds_toArray, List.set_cons_zero, List.set_cons_succ, i64_w, i32_w]
      rfl
    refine pure_ (i := 11) (N := some 46) (v := ?_) (a' := ?_) #[true, true, true, false, true, true, true, true, false, true, false, true, false, false, false] rfl rfl (by kernel_rfl) (fun _ _ _ h => h) (Or.inl ⟨by rfl, ?_⟩) ?_ ?_
    rotate_left
    · intro w'
      go_simp
      with_reducible rfl
    rotate_left
    · simp only [Act.put, List.setIfInBounds_toArray, List.set_cons_zero, List.set_cons_succ, i64_w, i32_w]
      rfl
    refine take_ (i := 3) (N := some 38) (v := ?_) (a' := ?_) #[true, true, true, true, true, true, true, true, false, true, false, true, false, false, false] rfl rfl (by kernel_rfl) (fun _ _ _ h => h) (Or.inl ⟨by rfl, ?_⟩) hHeld ?_ ?_
    rotate_left
    · rintro w' ⟨s0, s1⟩
      go_simp
      with_reducible rfl
    rotate_left
    · simp only [Act.put, List.setIfInBounds_toArray, List.set_cons_zero, List.set_cons_succ, i64_w, i32_w]
      rfl
    refine take_ (i := 8) (N := some 43) (v := ?_) (a' := ?_) #[true, true, true, true, true, true, true, true, true, true, false, true, false, false, false] rfl rfl (by kernel_rfl) (fun _ _ _ h => h) (Or.inl ⟨by rfl, ?_⟩) hHeld ?_ ?_
    rotate_left
    · rintro w' ⟨s0, s1⟩
      go_simp
      with_reducible rfl
    rotate_left
    · simp only [Act.put, List.setIfInBounds_toArray, List.set_cons_zero, List.set_cons_succ, i64_w, i32_w]
      rfl
    refine take_ (i := 10) (N := some 45) (v := ?_) (a' := ?_) #[true, true, true, true, true, true, true, true, true, true, true, true, false, false, false] rfl rfl (by kernel_rfl) (fun _ _ _ h => h) (Or.inl ⟨by rfl, ?_⟩) hHeld ?_ ?_
    rotate_left
    · rintro w' ⟨s0, s1⟩
      go_simp
      with_reducible rfl
    rotate_left
    · simp only [Act.put, List.setIfInBounds_toArray, List.set_cons_zero, List.set_cons_succ, i64_w, i32_w]
      rfl
    refine one_ (i := 12) (N := some 47) #[true, true, true, true, true, true, true, true, true, true, true, true, true, false, false] rfl rfl (by kernel_rfl) (by decide) (fun K hK => ?_)
    refine value_ (w1 := ?_) (v := ?_) (by rfl) rfl ?_ ?_
    rotate_left 2
    · go_simp
      constructor
      · rfl
      · rfl
    refine hK.out _ _ ⟨x2a, hlka⟩ (fun hHeld => ?_)
    clear hK K
    refine norm_ (a' := ?_) ?_ ?_
    rotate_left
    · show Act.put _ (some 47) _ = _
      simp only [Act.put, List.setIfInBounds_toArray, List.set_cons_zero, List.set_cons_succ, i64_w, i32_w]
      rfl
    refine one_ (i := 13) (N := some 48) #[true, true, true, true, true, true, true, true, true, true, true, true, true, true, false] rfl rfl (by kernel_rfl) (by decide) (fun K hK => ?_)
    refine Kd.R_append_step (W := w3.drew) (Kd.int .i64) (w0 := w3.drew) 0 (by rfl) _ _ 31 3 (.int .i64 0) 8 rfl Try.underlying31 info3 rfl (by decide) (by decide) (.slice A l.length c) l i [.int .i64 i] (Gr F w1) (fun _ => False) rfl rfl rfl (fun _ h => h.elim) (fun k hk => .inr (Nat.le_trans HK3.out.size hk)) HI.out (Below.refl _ _) (Nat.zero_le _) (by have := HL.out; have := HNN.out; omega) ?_
    intro v4 w4 ho4 hb4 hg4 hat4
    obtain ⟨hT4, hU4⟩ := HD.out.turnOf HV.out hg4
    have hap := HD.out.apart HV.out hat4
    obtain ⟨w6, hrun6, hA6, hU6⟩ := hT4.put HT.out (by have := HNN.out; omega) (by rw [List.length_append]; have := HL.out; simp; omega) ho4 hap
    have x2b : w4.cell? ⟨p, 2, none⟩ = some (.map (some ma)) := hT4.pl.cell 2
    have hlkb := hT4.lookA0 HT.out
    rw [HVE.out] at hlkb
    have HA6 := Aside0.mk hA6
    have HU6 := Aside0.mk ((HK3.out.trans ((Ku.of_below (below_drew (Below.refl _ _))).trans' hU4)).trans hU6)
    clear ho4 hb4 hg4 hat4 hT4 hU4 hap hA6 hU6
    refine hK.out _ _ ⟨x2b, hlkb⟩ (fun hHeld => ?_)
    clear hK K
    refine norm_ (a' := ?_) ?_ ?_
    rotate_left
    · show Act.put _ (some 48) _ = _
      simp only [Act.put, List.setIfInBounds_toArray, List.set_cons_zero, List.set_cons_succ, i64_w, i32_w]
      rfl
    refine last_ (i := 14) (N := none) #[true, true, true, true, true, true, true, true, true, true, true, true, true, true, true] rfl rfl (by kernel_rfl) (by decide) (fun K hK => ?_)
    refine skip_ (w1 := w6) (by rfl) rfl ?_ ?_
    · go_simp
      try rfl
    refine hK.out _ _ ?_
    clear hK K
    refine done_ (by kernel_rfl) ?_
    go_wp2_with fail
    go_ret2
    exact ⟨rfl, HA6.out, HU6.out⟩
  · obtain rfl : rr = 5 := by rw [HRR.out, if_neg hl0]
    have hlt : 0 < (l.length : Int) := by
      have := List.length_pos_iff.2 hl0
      omega
    clear hl0 HRR
    go_wp2_with fail
    refine start_ (n := 15) (S := fun w' => w'.cell? ⟨p, 2, none⟩ = some (.map (some ma)) ∧ (Instr.lookup 48 (.map (some ma)) (.string text) false).run Try.prog w' = .ok (.slice A l.length c) w') (ds := [14]) #[false, false, false, false, false, false, false, false, false, false, false, false, false, false, false] (by kernel_rfl) rfl rfl ⟨x2, hlkd⟩ (fun hHeld => ?_)
    refine pure_ (i := 0) (N := some 35) (v := ?_) (a' := ?_) #[true, false, false, false, false, false, false, false, false, false, false, false, false, false, false] rfl rfl (by kernel_rfl) (fun _ _ _ h => h) (Or.inl ⟨by rfl, ?_⟩) ?_ ?_
    rotate_left
    · intro w'
      go_simp
      with_reducible rfl
    rotate_left
    · simp only [Act.put, List.setIfInBounds_toArray, List.set_cons_zero, List.set_cons_succ, i64_w, i32_w]
      rfl
    refine pure_ (i := 1) (N := some 36) (v := ?_) (a' := ?_) #[true, true, false, false, false, false, false, false, false, false, false, false, false, false, false] rfl rfl (by kernel_rfl) (fun _ _ _ h => h) (Or.inl ⟨by rfl, ?_⟩) ?_ ?_
    rotate_left
    · intro w'
      go_simp
      with_reducible rfl
    rotate_left
    · simp only [Act.put, List.setIfInBounds_toArray, List.set_cons_zero, List.set_cons_succ, i64_w, i32_w]
      rfl
    refine pure_ (i := 2) (N := some 37) (v := ?_) (a' := ?_) #[true, true, true, false, false, false, false, false, false, false, false, false, false, false, false] rfl rfl (by kernel_rfl) (fun _ _ _ h => h) (Or.inl ⟨by rfl, ?_⟩) ?_ ?_
    rotate_left
    · intro w'
      go_simp
      with_reducible rfl
    rotate_left
    · simp only [Act.put, List.setIfInBounds_toArray, List.set_cons_zero, List.set_cons_succ, i64_w, i32_w]
      rfl
    refine pure_ (i := 4) (N := some 39) (v := ?_) (a' := ?_) #[true, true, true, false, true, false, false, false, false, false, false, false, false, false, false] rfl rfl (by kernel_rfl) (fun _ _ _ h => h) (Or.inl ⟨by rfl, ?_⟩) ?_ ?_
    rotate_left
    · intro w'
      go_simp
      with_reducible rfl
    rotate_left
    · simp only [Act.put, List.setIfInBounds_toArray, List.set_cons_zero, List.set_cons_succ, i64_w, i32_w]
      rfl
    refine pure_ (i := 5) (N := some 40) (v := ?_) (a' := ?_) #[true, true, true, false, true, true, false, false, false, false, false, false, false, false, false] rfl rfl (by kernel_rfl) (fun _ _ _ h => h) (Or.inl ⟨by rfl, ?_⟩) ?_ ?_
    rotate_left
    · intro w'
      go_simp
      with_reducible rfl
    rotate_left
    · simp only [Act.put, List.setIfInBounds_toArray, List.set_cons_zero, List.set_cons_succ, i64_w, i32_w]
      rfl
    refine pure_ (i := 6) (N := some 41) (v := ?_) (a' := ?_) #[true, true, true, false, true, true, true, false, false, false, false, false, false, false, false] rfl rfl (by kernel_rfl) (fun _ _ _ h => h) (Or.inl ⟨by rfl, ?_⟩) ?_ ?_
    rotate_left
    · intro w'
      go_simp
      with_reducible rfl
    rotate_left
    · simp only [Act.put, List.setIfInBounds_toArray, List.set_cons_zero, List.set_cons_succ, i64_w, i32_w]
      rfl
    refine pure_ (i := 7) (N := some 42) (v := ?_) (a' := ?_) #[true, true, true, false, true, true, true, true, false, false, false, false, false, false, false] rfl rfl (by kernel_rfl) (fun _ _ _ h => h) (Or.inl ⟨by rfl, ?_⟩) ?_ ?_
    rotate_left
    · intro w'
      go_simp
      with_reducible rfl
    rotate_left
    · simp only [Act.put, List.setIfInBounds_toArray, List.set_cons_zero, List.set_cons_succ, i64_w, i32_w]
      rfl
    refine pure_ (i := 9) (N := some 44) (v := ?_) (a' := ?_) #[true, true, true, false, true, true, true, true, false, true, false, false, false, false, false] rfl rfl (by kernel_rfl) (fun _ _ _ h => h) (Or.inl ⟨by rfl, ?_⟩) ?_ ?_
    rotate_left
    · intro w'
      go_simp
      with_reducible rfl
    rotate_left
    · simp only [Act.put, List.setIfInBounds_toArray, List.set_cons_zero, List.set_cons_succ, i64_w, i32_w]
      rfl
    refine pure_ (i := 11) (N := some 46) (v := ?_) (a' := ?_) #[true, true, true, false, true, true, true, true, false, true, false, true, false, false, false] rfl rfl (by kernel_rfl) (fun _ _ _ h => h) (Or.inl ⟨by rfl, ?_⟩) ?_ ?_
    rotate_left
    · intro w'
      go_simp
      with_reducible rfl
    rotate_left
    · simp only [Act.put, List.setIfInBounds_toArray, List.set_cons_zero, List.set_cons_succ, i64_w, i32_w]
      rfl
    refine take_ (i := 3) (N := some 38) (v := ?_) (a' := ?_) #[true, true, true, true, true, true, true, true, false, true, false, true, false, false, false] rfl rfl (by kernel_rfl) (fun _ _ _ h => h) (Or.inl ⟨by rfl, ?_⟩) hHeld ?_ ?_
    rotate_left
    · rintro w' ⟨s0, s1⟩
      go_simp
      with_reducible rfl
    rotate_left
    · simp only [Act.put, List.setIfInBounds_toArray, List.set_cons_zero, List.set_cons_succ, i64_w, i32_w]
      rfl
    refine take_ (i := 8) (N := some 43) (v := ?_) (a' := ?_) #[true, true, true, true, true, true, true, true, true, true, false, true, false, false, false] rfl rfl (by kernel_rfl) (fun _ _ _ h => h) (Or.inl ⟨by rfl, ?_⟩) hHeld ?_ ?_
    rotate_left
    · rintro w' ⟨s0, s1⟩
      go_simp
      with_reducible rfl
    rotate_left
    · simp only [Act.put, List.setIfInBounds_toArray, List.set_cons_zero, List.set_cons_succ, i64_w, i32_w]
      rfl
    refine take_ (i := 10) (N := some 45) (v := ?_) (a' := ?_) #[true, true, true, true, true, true, true, true, true, true, true, true, false, false, false] rfl rfl (by kernel_rfl) (fun _ _ _ h => h) (Or.inl ⟨by rfl, ?_⟩) hHeld ?_ ?_
    rotate_left
    · rintro w' ⟨s0, s1⟩
      go_simp
      with_reducible rfl
    rotate_left
    · simp only [Act.put, List.setIfInBounds_toArray, List.set_cons_zero, List.set_cons_succ, i64_w, i32_w]
      rfl
    refine one_ (i := 12) (N := some 47) #[true, true, true, true, true, true, true, true, true, true, true, true, true, false, false] rfl rfl (by kernel_rfl) (by decide) (fun K hK => ?_)
    refine value_ (w1 := ?_) (v := ?_) (by rfl) rfl ?_ ?_
    rotate_left 2
    · go_simp
      constructor
      · rfl
      · rfl
    refine hK.out _ _ ⟨x2a, hlka⟩ (fun hHeld => ?_)
    clear hK K
    refine norm_ (a' := ?_) ?_ ?_
    rotate_left
    · show Act.put _ (some 47) _ = _
      simp only [Act.put, List.setIfInBounds_toArray, List.set_cons_zero, List.set_cons_succ, i64_w, i32_w]
      rfl
    refine one_ (i := 13) (N := some 48) #[true, true, true, true, true, true, true, true, true, true, true, true, true, true, false] rfl rfl (by kernel_rfl) (by decide) (fun K hK => ?_)
    refine Kd.R_append_step (W := w3.drew) (Kd.int .i64) (w0 := w3.drew) 0 (by rfl) _ _ 31 3 (.int .i64 0) 8 rfl Try.underlying31 info3 rfl (by decide) (by decide) (.slice A l.length c) l i [.int .i64 i] (Gr F w1) (fun _ => False) rfl rfl rfl (fun _ h => h.elim) (fun k hk => .inr (Nat.le_trans HK3.out.size hk)) HI.out (Below.refl _ _) (Nat.zero_le _) (by have := HL.out; have := HNN.out; omega) ?_
    intro v4 w4 ho4 hb4 hg4 hat4
    obtain ⟨hT4, hU4⟩ := HD.out.turnOf HV.out hg4
    have hap := HD.out.apart HV.out hat4
    obtain ⟨w6, hrun6, hA6, hU6⟩ := hT4.put HT.out (by have := HNN.out; omega) (by rw [List.length_append]; have := HL.out; simp; omega) ho4 hap
    have x2b : w4.cell? ⟨p, 2, none⟩ = some (.map (some ma)) := hT4.pl.cell 2
    have hlkb := hT4.lookA0 HT.out
    rw [HVE.out] at hlkb
    have HA6 := Aside0.mk hA6
    have HU6 := Aside0.mk ((HK3.out.trans ((Ku.of_below (below_drew (Below.refl _ _))).trans' hU4)).trans hU6)
    clear ho4 hb4 hg4 hat4 hT4 hU4 hap hA6 hU6
    refine hK.out _ _ ⟨x2b, hlkb⟩ (fun hHeld => ?_)
    clear hK K
    refine norm_ (a' := ?_) ?_ ?_
    rotate_left
    · show Act.put _ (some 48) _ = _
      simp only [Act.put, List.setIfInBounds_toArray, List.set_cons_zero, List.set_cons_succ, i64_w, i32_w]
      rfl
    refine last_ (i := 14) (N := none) #[true, true, true, true, true, true, true, true, true, true, true, true, true, true, true] rfl rfl (by kernel_rfl) (by decide) (fun K hK => ?_)
    refine skip_ (w1 := w6) (by rfl) rfl ?_ ?_
    · go_simp
      try rfl
    refine hK.out _ _ ?_
    clear hK K
    refine done_ (by kernel_rfl) ?_
    go_wp2_with fail
    go_ret2
    exact ⟨rfl, HA6.out, HU6.out⟩
end Go.Proofs.Ytnakiheekkpfdaa.Q
