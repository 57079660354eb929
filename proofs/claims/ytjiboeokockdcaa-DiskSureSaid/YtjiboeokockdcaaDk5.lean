/- A disk's law 'Apart', walked. No condition but those typed. -/
import Derived.Test.YtjiboeokockdcaaWalk0
import Derived.Test.YtjiboeokockdcaaDisk09
import Derived.Test.YtjiboeokockdcaaDk4
namespace Go.Proofs.Ytjiboeokockdcaa.Q
open Go.RowKit Go.Proofs.YtjiboeokockdcaaW.PrintWords Go.Proofs.YtjiboeokockdcaaW.PrintLast Go.Proofs.YtjiboeokockdcaaW.PrintMore
open Go.Proofs.Ytjiboeokockdcaa.Dk
attribute [local go_sem] max2_int min2_int max_two min_two max_three min_three max_four min_four   -- for this text's walks alone
set_option linter.unusedVariables false
set_option linter.unusedSimpArgs false
theorem at_skip {g : Nat} {ok : Nat → Prop} {d : D} {w w1 : World} (h : At g ok d w) (hb : Below w.heap.size w w1) : At g (fun k => ok k ∧ (k < w.heap.size ∨ w1.heap.size ≤ k)) d w1 := by
  have hl := h.lt
  obtain ⟨v0, v1, v2, v3, hA, h0, h1, h2, h3⟩ := h.ex
  have m : ∀ {v xs}, Vb ok w v xs → Vb (fun k => ok k ∧ (k < w.heap.size ∨ w1.heap.size ≤ k)) w1 v xs := fun hv => Kd.V_mono (Kd.V_below (Kd.V_bound hv) hb) (fun k hk => ⟨hk.1, .inl hk.2⟩)
  exact ⟨fun hk => h.nok hk.1, fun k hk => ⟨h.fresh k (Nat.le_trans hb.size hk), .inr hk⟩, v0, v1, v2, v3, hA.below hb hl, m h0, m h1, m h2, m h3⟩
/-- A row of the call's own that the disk has no part of. -/
structure Free (g : Nat) (ok : Nat → Prop) (base : Nat) (v : Value) (n : Nat) (w : World) : Prop where
  ex : ∃ ys : List Int, ys.length = n ∧ w.ownsRow base 5 1 v n (nums .u8 ys)
  far : ∀ k, v.ownBlock = some k → ¬ ok k ∧ k ≠ g
theorem Free.tn {g : Nat} {ok : Nat → Prop} {base : Nat} {v : Value} {n : Nat} {w w1 : World} (h : Free g ok base v n w) (T : Tn g w w1) : Free g ok base v n w1 := by
  obtain ⟨ys, hy, ho⟩ := h.ex
  refine ⟨⟨ys, hy, own_other ho T.grown (Classical.or_iff_not_imp_left.2 (fun _ e => ?_))⟩, h.far⟩
  exact (h.far g e).2 rfl
theorem Free.below {g : Nat} {ok : Nat → Prop} {base : Nat} {v : Value} {n : Nat} {w w1 : World} (h : Free g ok base v n w) (hb : Below w.heap.size w w1) : Free g ok base v n w1 := h.tn (Tn.of_below hb)
theorem Free.form {g : Nat} {ok : Nat → Prop} {base : Nat} {v : Value} {n : Nat} {w : World} (h : Free g ok base v n w) : (n = 0 ∧ ∃ A c, v = .slice A 0 c) ∨ ∃ m c, v = .slice (some ⟨m, 0, none⟩) n c ∧ base ≤ m ∧ ¬ ok m ∧ m ≠ g ∧ m < w.heap.size := by
  obtain ⟨ys, hy, ho⟩ := h.ex
  obtain ⟨A, c, rfl⟩ := own_slice ho
  rcases ho.2 with ⟨h1, h2⟩ | ⟨m, c', cur, h1, hb, hh, hr⟩
  · subst h2
    exact .inl ⟨rfl, _, _, rfl⟩
  · have e : Value.slice A n c = Value.slice (some ⟨m, 0, none⟩) n c' := h1
    obtain ⟨rfl, _, rfl⟩ : A = some ⟨m, 0, none⟩ ∧ True ∧ c = c' := by injection e with e1 e2 e3; exact ⟨e1, trivial, e3⟩
    have hf := h.far m (by simp [Value.ownBlock])
    exact .inr ⟨m, c, rfl, hb, hf.1, hf.2, (Array.getElem?_eq_some_iff.1 hh).1⟩
theorem Free.get {g : Nat} {ok : Nat → Prop} {base n m c : Nat} {w : World} (h : Free g ok base (.slice (some ⟨m, 0, none⟩) n c) n w) {i : Nat} (hi : i < n) : ∃ x, w.cell? ⟨m, i, none⟩ = some (.int .u8 x) ∧ w.frozen? ⟨m, i, none⟩ = false := by
  obtain ⟨ys, hy, ho⟩ := h.ex
  have := own_at ho (i : Int) (by omega) (by omega)
  exact ⟨_, this⟩
theorem Free.set {g : Nat} {ok : Nat → Prop} {base n m c : Nat} {w : World} (h : Free g ok base (.slice (some ⟨m, 0, none⟩) n c) n w) (i : Nat) (x : Int) : Free g ok base (.slice (some ⟨m, 0, none⟩) n c) n (w.setCell ⟨m, i, none⟩ (.int .u8 x)) := by
  obtain ⟨ys, hy, ho⟩ := h.ex
  exact ⟨⟨ys.set i x, by simpa using hy, (own_store ho (i : Int) x).1⟩, h.far⟩
theorem V_arg {w : World} {B : Option Addr} {cb : Nat} {b : List Int} (h : (Kd.int .u8).C w B b.length b) (hc : b.length ≤ cb) : Vb (fun k => k < w.heap.size) w (.slice B b.length cb) b :=
  Kd.V_mono (Kd.V_bound (Kd.V_mk (ok := fun _ => True) hc (fun W' hW => (Kd.heap_int _).C (fun k hk => hW k trivial hk) h))) (fun k hk => hk.2)
def ap1 (b : List Int) : D := ⟨⟨[], [], -1⟩, ⟨b, [], -1⟩, 0, 1048576, false, -1, false⟩
def ap2 (b : List Int) : D := ⟨⟨[], [], -1⟩, ⟨b, b, -1⟩, 0, 1048576, false, -1, false⟩
theorem ap_room {b : List Int} (h : b.length ≤ 5000) : room1 (newD 1048576) b.length = 0 := by
  unfold room1
  rw [if_neg]
  show ¬ ((1048576 : Int) - (0 : Nat) - (0 : Nat) < b.length)
  omega
theorem ap_E {b : List Int} (h : b.length ≤ 5000) : gateE (newD 1048576) 1 (actE (room1 (newD 1048576) b.length) (newD 1048576)) = 0 := by
  rw [ap_room h]
  rfl
theorem ap_D {b : List Int} (h : b.length ≤ 5000) : gateD (newD 1048576) 1 (actD (room1 (newD 1048576) b.length) (app (bi 1) b) (newD 1048576)) = ap1 b := by
  rw [ap_room h]
  rfl
theorem ap_good1 {b : List Int} (h : b.length ≤ 5000) : Good (ap1 b) := by
  have := good_app (good_new (room := 1048576) (by decide) (by decide)) true (ap_room h)
  exact this
theorem ap_E2 {b : List Int} : gateE (ap1 b) 1 (actE 0 (ap1 b)) = 0 := rfl
theorem ap_D2 {b : List Int} : gateD (ap1 b) 1 (actD 0 (syn (bi 1)) (ap1 b)) = ap2 b := rfl
theorem ap_good2 {b : List Int} (h : b.length ≤ 5000) : Good (ap2 b) := good_put (ap_good1 h) true (flok_syn (flok (ap_good1 h) true))
theorem ap_calm {b : List Int} (h : b.length ≤ 5000) : Calm b (ap2 b) := ⟨ap_good2 h, rfl, rfl, rfl⟩
set_option maxHeartbeats 8000000 in
set_option maxRecDepth 100000 in
theorem law_Apart.calls {w : World} {A : Option Addr} {c : Nat} {l : List Ac} (hC : dA.C w A l.length l) (hc : l.length ≤ c) (hl : ∀ a ∈ l, a.n < 9223372036854775808) {B : Option Addr} {cb : Nat} {b : List Int} (hB : (Kd.int .u8).C w B b.length b) (hcb : b.length ≤ cb) :
    Calls Try.prog 3 #[.slice A l.length c, .slice B b.length cb] w fun e w' => e = .returned (.bool true) ∧ Below w.heap.size w w' := by
  have HC := Aside0.mk hC
  have HCC := Aside0.mk hc
  have HLN := Aside0.mk hl
  have HBB := Aside0.mk hB
  have HCB := Aside0.mk hcb
  clear hC hc hl hB hcb
  go_enter Try.func3, Try.ntmps3
  go_wp2_with fail
  refine (disk_New.calls (by decide) (by decide) (fun k => w.heap.size < k) (by omega) (fun _ hk => hk)).mono ?_
  rintro e w1 ⟨rfl, hA, hB⟩
  have HA1 := Aside0.mk hA
  have HB1 := Aside0.mk hB
  obtain ⟨g, hg⟩ : ∃ g, g = w.heap.size := ⟨_, rfl⟩
  have HGE := Aside0.mk hg
  rw [← hg] at HA1 ⊢
  clear hA hB hg
  go_wp2_with fail
  refine (law_far.calls (Kd.C_below HC.out HB1.out) HCC.out).mono ?_
  rintro e w2 ⟨bf, rfl, hB⟩
  have HA2 := Aside0.mk (HA1.out.below hB)
  have HB2 := Aside0.mk (HB1.out.trans (hB.mono HB1.out.size))
  clear hB HA1 HB1
  cases bf
  case true =>
    go_wp2_with fail
    refine (law_alive.calls _).mono ?_
    rintro e w3 ⟨rfl, hB⟩
    have HB3 := Aside0.mk (HB2.out.trans (hB.mono HB2.out.size))
    clear hB
    go_wp2_with fail
    go_ret
    exact ⟨rfl, HB3.out⟩
  by_cases hlen : 5000 < b.length
  · have hlb : decide ((b.length : Int) > 5000) = true := decide_eq_true (by omega)
    go_wp2_with fail
    refine (law_alive.calls _).mono ?_
    rintro e w3 ⟨rfl, hB⟩
    have HB3 := Aside0.mk (HB2.out.trans (hB.mono HB2.out.size))
    clear hB
    go_wp2_with fail
    go_ret
    exact ⟨rfl, HB3.out⟩
  have hlb : decide ((b.length : Int) > 5000) = false := decide_eq_false (by omega)
  have HLEN := Aside0.mk (show b.length ≤ 5000 by omega)
  clear hlen
  have HB2s := Aside0.mk HB2.out.size
  have HB2r := Aside0.mk (Kd.C_below HBB.out HB2.out)
  go_wp2_with (at_builtin; refine Kd.R_append_row (Value.int .u8) 0 (w0 := w2) w2.heap.size rfl _ _ 23 5 (.int .u8 0) 1 rfl Try.underlying23 info5 rfl (by decide) (.slice none 0 0) [] b B b.length cb (fun _ => True) rfl rfl (fun _ _ => trivial) (Kd.R_nil _ _ _ _ _) HB2r.out (Below.refl _ _) (Nat.le_refl _) (by have := HLEN.out; simp; omega) ?_; intro v3 w3 ho3 hb3 hg3 hat3)
  rw [List.nil_append] at ho3
  have HA3 := Aside0.mk (at_skip HA2.out hb3)
  have HB3 := Aside0.mk (HB2.out.trans (hb3.mono HB2.out.size))
  obtain ⟨ok3, hok3⟩ : ∃ ok3, ok3 = (fun k => g < k ∧ (k < w2.heap.size ∨ w3.heap.size ≤ k)) := ⟨_, rfl⟩
  rw [← hok3] at HA3
  obtain ⟨A3, c3, rfl⟩ := Kd.R_slice ho3
  have hgl := HA2.out.lt
  have HF3 := Aside0.mk (show Free g ok3 w2.heap.size (.slice A3 b.length c3) b.length w3 from ⟨⟨b, rfl, Kd.own_of_R ho3⟩, fun k hk => by
    have h1 := Kd.R_base ho3 k hk
    have h2 := Kd.R_lt ho3 k hk
    rw [hok3]
    constructor
    · rintro ⟨_, h3⟩
      omega
    · omega⟩)
  have HV3 := Aside0.mk (V_own (ok := fun k => w2.heap.size ≤ k) ho3 (fun _ h => h))
  have HN3 := Aside0.mk (show ¬ (w2.heap.size ≤ g) by omega)
  clear ho3 hb3 hg3 hat3 hok3 hgl
  go_wp2_with fail
  refine (disk_Append.all HA3.out (good_new (by decide) (by decide)) 1 HV3.out HN3.out).mono ?_
  rw [ap_E HLEN.out, ap_D HLEN.out]
  rintro e w4 ⟨rfl, hA, hT⟩
  have HA4 := Aside0.mk hA
  have HB4 := Aside0.mk (hT.base HB3.out (by rw [HGE.out]; exact Nat.le_refl _) HB3.out.size)
  have HF4 := Aside0.mk (HF3.out.tn hT)
  clear hA hT HA3 HB3 HF3 HV3 HN3 HA2 HB2 HB2r
  go_wp2_with fail
  refine (disk_Sync.all HA4.out (ap_good1 HLEN.out) 1).mono ?_
  rw [ap_E2, ap_D2]
  rintro e w5 ⟨rfl, hA, hT⟩
  have HA5 := Aside0.mk hA
  have HB5 := Aside0.mk (hT.base HB4.out (by rw [HGE.out]; exact Nat.le_refl _) HB4.out.size)
  have HF5 := Aside0.mk (HF4.out.tn hT)
  clear hA hT HA4 HB4 HF4
  have HBASE := Aside0.mk (show w.heap.size ≤ w2.heap.size from HB2s.out)
  go_wp2_with fail
  go_loopw [54] (fun j wr => ∃ n : Nat, n ≤ b.length ∧ j = .int .i64 n ∧ Aside0 (At g ok3 (ap2 b) wr) ∧ Aside0 (Below w.heap.size w wr) ∧ Aside0 (Free g ok3 w2.heap.size (.slice A3 b.length c3) b.length wr)) (fun j _ => b.length - (intOf j).toNat)
  case atStart => exact ⟨0, Nat.zero_le _, rfl, HA5, HB5, HF5⟩
  case round =>
    clear HA5 HB5 HF5
    obtain ⟨n, hn, rfl, HA, HB, HF⟩ := hrel
    by_cases hlt : n < b.length
    · rcases HF.out.form with ⟨h0, _⟩ | ⟨m, c', hv, hm1, hm2, hm3, hm4⟩
      · omega
      obtain ⟨rfl, rfl⟩ : A3 = some ⟨m, 0, none⟩ ∧ c' = c3 := by injection hv with e1 e2 e3; exact ⟨e1, e3.symm⟩
      obtain ⟨x, hx, hz⟩ := HF.out.get hlt
      have HM := Aside0.mk (And.intro hm1 (And.intro hm2 (And.intro hm3 hm4)))
      clear hv hm1 hm2 hm3 hm4
      go_wp2_with fail
      have en : wrap64 ((n : Int) + 1) = ((n + 1 : Nat) : Int) := w64n (by have := HLEN.out; omega)
      rw [en]
      go_roundw
      case rel =>
        refine ⟨n + 1, by omega, rfl, ⟨HA.out.far HM.out.2.2.1 HM.out.2.1 _⟩, ⟨HB.out.setCell (Nat.le_trans HBASE.out HM.out.1) _⟩, ⟨HF.out.set n _⟩⟩
      case measure => simp [intOf]; omega
    · obtain rfl : n = b.length := by omega
      have HA6 := HA
      have HB6 := HB
      clear HA HB HF hlt hn
      have HS := Aside0.mk (law_short.calls (A := A) HCC.out)
      obtain ⟨ms, hms⟩ : ∃ ms, ms = sh l.length := ⟨_, rfl⟩
      have HMS := Aside0.mk (show ms ≤ l.length ∧ ms ≤ 60 from by rw [hms]; unfold sh; split <;> omega)
      rw [← hms] at HS
      clear hms
      go_wp2_with fail
      refine (HS.out _).mono ?_
      rintro e w6 ⟨rfl, rfl⟩
      go_wp2_with fail
      go_loopw [67] (fun j wr => ∃ n : Nat, n ≤ ms ∧ j = .int .i64 n ∧ (∃ d, Aside0 (Calm b d ∧ At g ok3 d wr)) ∧ Aside0 (Below w.heap.size w wr)) (fun j _ => ms - (intOf j).toNat)
      case atStart => exact ⟨0, Nat.zero_le _, rfl, ⟨_, ⟨ap_calm HLEN.out, HA6.out⟩⟩, HB6⟩
      case round =>
        clear HA6 HB6
        obtain ⟨n, hn, rfl, ⟨d, HA⟩, HB⟩ := hrel
        by_cases hlt : n < ms
        · have hl : n < l.length := by have := HMS.out; omega
          obtain ⟨ad, Ba, ca, k0, k1, c0, c1, rfl, hb, hbC, hk, hcs, hx⟩ := script_at HC.out hl
          have HLa := Aside0.mk (HLN.out _ (List.getElem_mem hl))
          generalize l[n] = a at hb hbC hk hcs hx HLa
          obtain ⟨X, hX⟩ : ∃ X, X = ad.add (n * 9) := ⟨_, rfl⟩
          have hXe : ad.add (n * 9) = X := hX.symm
          rw [hXe] at hx
          clear hX
          have hx0 : wr.cell? X = some (.int .u8 a.kind) := pw_cell_below HB.out (hx 0 _ rfl)
          have hx1 : wr.cell? ⟨X.block, X.off + 1, none⟩ = some (.int .i64 a.file) := pw_cell_below HB.out (hx 1 _ rfl)
          have hx2 : wr.cell? ⟨X.block, X.off + 2, none⟩ = some (.int .i64 a.n) := pw_cell_below HB.out (hx 2 _ rfl)
          have hx3 : wr.cell? ⟨X.block, X.off + 3, none⟩ = some (.bool a.behind) := pw_cell_below HB.out (hx 3 _ rfl)
          have hx4 : wr.cell? ⟨X.block, X.off + 4, none⟩ = some (.slice Ba a.b.length ca) := pw_cell_below HB.out (hx 4 _ rfl)
          have hx5 : wr.cell? ⟨X.block, X.off + 5, none⟩ = some (.int .i64 k0) := pw_cell_below HB.out (hx 5 _ rfl)
          have hx6 : wr.cell? ⟨X.block, X.off + 6, none⟩ = some (.int .i64 k1) := pw_cell_below HB.out (hx 6 _ rfl)
          have hx7 : wr.cell? ⟨X.block, X.off + 7, none⟩ = some (.bool c0) := pw_cell_below HB.out (hx 7 _ rfl)
          have hx8 : wr.cell? ⟨X.block, X.off + 8, none⟩ = some (.bool c1) := pw_cell_below HB.out (hx 8 _ rfl)
          have hVa := Kd.V_below (V_arg hbC hb) HB.out
          have hb1 := below_alloc (Below.refl _ wr) (.cells #[.int .u8 a.kind, .int .i64 0, .int .i64 a.n, .bool a.behind, .slice Ba a.b.length ca, .int .i64 k0, .int .i64 k1, .bool c0, .bool c1] 36)
          have HA1 := HA.out.2.below hb1
          have HB1 := Aside0.mk (HB.out.trans (hb1.mono HB.out.size))
          have hd : Calls Try.prog 12 #[.pointer (some ⟨g, 0, none⟩), .agg #[.int .u8 a.kind, .int .i64 0, .int .i64 a.n, .bool a.behind, .slice Ba a.b.length ca, .int .i64 k0, .int .i64 k1, .bool c0, .bool c1]] (wr.alloc (.cells #[.int .u8 a.kind, .int .i64 0, .int .i64 a.n, .bool a.behind, .slice Ba a.b.length ca, .int .i64 k0, .int .i64 k1, .bool c0, .bool c1] 36)) fun e w' => e = .returned (.int .i64 (doesE { a with file := 0 } d)) ∧ At g ok3 (doesD { a with file := 0 } d) w' ∧ Tn g _ w' :=
            law_does.calls (okb := fun k => k < w.heap.size) HA1 HA.out.1.good { a with file := 0 } Ba ca k0 k1 c0 c1 hk hcs (Kd.V_below hVa hb1) (by rw [HGE.out]; omega)
          have HD := Aside0.mk hd
          obtain ⟨z, hz⟩ : ∃ z, z = Int.tmod a.kind 8 := ⟨_, rfl⟩
          have hzc : Int.tmod a.kind 8 = z := hz.symm
          have HCM := Aside0.mk (fun (hm : Mild z) => calm_does HA.out.1 { a with file := 0 } rfl (by rw [hz] at hm; exact hm) HLa.out)
          have en : wrap64 ((n : Int) + 1) = ((n + 1 : Nat) : Int) := w64n (by have := HMS.out; omega)
          have HA1' := Aside0.mk (And.intro HA.out.1 HA1)
          clear hx hb hbC hk hcs hVa hb1 hd hz HA1
          by_cases t4 : z < 4
          · have t4b : decide (z < 4) = true := decide_eq_true t4
            have HCD := Aside0.mk (HCM.out (.inl t4))
            clear t4
            go_wp2_with fail
            refine HD.out.mono ?_
            rintro e w7 ⟨rfl, hA, hT⟩
            have HA7 := Aside0.mk hA
            have HB7 := Aside0.mk (hT.base HB1.out (by rw [HGE.out]; exact Nat.le_refl _) HB1.out.size)
            clear hA hT
            go_wp2_with fail
            rw [en]
            go_roundw
            case rel => exact ⟨n + 1, by omega, rfl, ⟨_, ⟨HCD.out, HA7.out⟩⟩, HB7⟩
            case measure => simp [intOf]; omega
          have t4b : decide (z < 4) = false := decide_eq_false t4
          by_cases t7 : z = 7
          · have t7b : (z == 7) = true := by simpa using t7
            have HCD := Aside0.mk (HCM.out (.inr t7))
            clear t7 t4
            go_wp2_with fail
            refine HD.out.mono ?_
            rintro e w7 ⟨rfl, hA, hT⟩
            have HA7 := Aside0.mk hA
            have HB7 := Aside0.mk (hT.base HB1.out (by rw [HGE.out]; exact Nat.le_refl _) HB1.out.size)
            clear hA hT
            go_wp2_with fail
            rw [en]
            go_roundw
            case rel => exact ⟨n + 1, by omega, rfl, ⟨_, ⟨HCD.out, HA7.out⟩⟩, HB7⟩
            case measure => simp [intOf]; omega
          · have t7b : (z == 7) = false := by simpa using t7
            clear t7 t4
            go_wp2_with fail
            rw [en]
            go_roundw
            case rel => exact ⟨n + 1, by omega, rfl, ⟨_, HA1'⟩, HB1⟩
            case measure => simp [intOf]; omega
        obtain rfl : n = ms := by omega
        have HB8 := HB
        have HA8 := HA
        clear HB HA hlt hn
        have hrd := disk_Read.calls HA8.out.2 HA8.out.1.good.room.pos HA8.out.1.off true (by have h1 := HA8.out.1.now; show d.b.now.length ≤ _; rw [h1]; have := HLEN.out; omega)
        rw [show (d.fl true).now = b from HA8.out.1.now, show iv true = 1 from rfl] at hrd
        have HRD := Aside0.mk hrd
        clear hrd
        go_wp2_with fail
        refine HRD.out.mono ?_
        rintro e w9 ⟨v9, rfl, ho, hb⟩
        have HA9 := Aside0.mk (at_skip HA8.out.2 hb)
        have HCL := Aside0.mk HA8.out.1
        have HB9 := Aside0.mk (HB8.out.trans (hb.mono HB8.out.size))
        have HBASE9 := Aside0.mk (show w.heap.size ≤ wr.heap.size from HB8.out.size)
        obtain ⟨ok9, hok9⟩ : ∃ ok9, ok9 = (fun k => ok3 k ∧ (k < wr.heap.size ∨ w9.heap.size ≤ k)) := ⟨_, rfl⟩
        rw [← hok9] at HA9
        obtain ⟨A9, c9, rfl⟩ := Kd.R_slice ho
        have hgl := HA8.out.2.lt
        have HF9 := Aside0.mk (show Free g ok9 wr.heap.size (.slice A9 b.length c9) b.length w9 from ⟨⟨b, rfl, Kd.own_of_R ho⟩, fun k hk => by
          have h1 := Kd.R_base ho k hk
          have h2 := Kd.R_lt ho k hk
          rw [hok9]
          constructor
          · rintro ⟨_, h3⟩
            omega
          · omega⟩)
        clear ho hb hok9 hgl HA8 HB8 HRD
        go_wp2_with fail
        go_loopw [92] (fun j wq => ∃ n : Nat, n ≤ b.length ∧ j = .int .i64 n ∧ Aside0 (At g ok9 d wq) ∧ Aside0 (Below w.heap.size w wq) ∧ Aside0 (Free g ok9 wr.heap.size (.slice A9 b.length c9) b.length wq)) (fun j _ => b.length - (intOf j).toNat)
        case atStart => exact ⟨0, Nat.zero_le _, rfl, HA9, HB9, HF9⟩
        case round =>
          rename_i wq _ _
          clear HA9 HB9 HF9
          obtain ⟨n, hn, rfl, HA, HB, HF⟩ := hrel
          by_cases hlt : n < b.length
          · rcases HF.out.form with ⟨h0, _⟩ | ⟨m, c', hv, hm1, hm2, hm3, hm4⟩
            · omega
            obtain ⟨rfl, rfl⟩ : A9 = some ⟨m, 0, none⟩ ∧ c' = c9 := by injection hv with e1 e2 e3; exact ⟨e1, e3.symm⟩
            obtain ⟨x, hx, hz⟩ := HF.out.get hlt
            have HM := Aside0.mk (And.intro hm1 (And.intro hm2 (And.intro hm3 hm4)))
            clear hv hm1 hm2 hm3 hm4
            go_wp2_with fail
            have en : wrap64 ((n : Int) + 1) = ((n + 1 : Nat) : Int) := w64n (by have := HLEN.out; omega)
            rw [en]
            go_roundw
            case rel =>
              refine ⟨n + 1, by omega, rfl, ⟨HA.out.far HM.out.2.2.1 HM.out.2.1 _⟩, ⟨HB.out.setCell (Nat.le_trans HBASE9.out HM.out.1) _⟩, ⟨HF.out.set n _⟩⟩
            case measure => simp [intOf]; omega
          · obtain rfl : n = b.length := by omega
            have hrd := disk_Read.calls HA.out HCL.out.good.room.pos HCL.out.off true (by have h1 := HCL.out.now; show d.b.now.length ≤ _; rw [h1]; have := HLEN.out; omega)
            rw [show (d.fl true).now = b from HCL.out.now, show iv true = 1 from rfl] at hrd
            have HRD := Aside0.mk hrd
            clear hrd
            go_wp2_with fail
            refine HRD.out.mono ?_
            rintro e w10 ⟨v10, rfl, ho, hb⟩
            obtain ⟨A10, c10, rfl⟩ := Kd.R_slice ho
            have HB10 := Aside0.mk (HB.out.trans (hb.mono HB.out.size))
            have hcv := own_string (P := Try.prog) Try.underlying23 Try.underlying5 Try.underlying9 (Kd.own_of_R ho)
            have hcb := Kd.C_string (P := Try.prog) (c := cb) Try.underlying23 Try.underlying5 Try.underlying9 (Kd.C_below HBB.out HB10.out)
            clear ho hb
            go_wp2_with fail
            refine (law_alive.calls _).mono ?_
            rintro e w11 ⟨rfl, hB⟩
            have HB11 := Aside0.mk (HB10.out.trans (hB.mono HB10.out.size))
            clear hB
            go_wp2_with fail
            go_ret
            exact ⟨rfl, HB11.out⟩
end Go.Proofs.Ytjiboeokockdcaa.Q

