/- The document's disk, walked: Truncate, New. No condition but those typed. -/
import Derived.Test.YtdlfabbhdelinaaShort
import Derived.Test.YtdlfabbhdelinaaWalk0
import Derived.Test.YtdlfabbhdelinaaDisk09
import Derived.Test.YtdlfabbhdelinaaJx1
import Derived.Outline
namespace Go.Proofs.Ytdlfabbhdelinaa.Q
open Go.RowKit Go.Proofs.YtdlfabbhdelinaaW.PrintWords Go.Proofs.YtdlfabbhdelinaaW.PrintLast Go.Proofs.YtdlfabbhdelinaaW.PrintMore
open Go.Proofs.Ytdlfabbhdelinaa.Dk Go.Proofs.Ytdlfabbhdelinaa.Sh
attribute [local go_sem] max2_int min2_int max_two min_two max_three min_three max_four min_four   -- for this text's walks alone
set_option linter.unusedVariables false
set_option linter.unusedSimpArgs false
set_option maxRecDepth 100000
set_option maxHeartbeats 4000000 in
theorem rTruncate.calls {g : Nat} {ok : Nat → Prop} {d : D} {w : World} (h : Dr.At g ok d w) (hg : Good d) (i : Bool) (n : Int) :
    Calls Try.prog 53 #[.pointer (some ⟨g, 0, none⟩), .int .i64 (iv i), .int .i64 n] w fun e w' => e = .returned (.int .i64 (trE (iv i) n d)) ∧ Dr.At g ok (trD (iv i) n d) w' ∧ Tn g w w' := by
  have H := Aside0.mk h
  have HG := Aside0.mk hg
  have HASK := Aside0.mk (rask.calls h i)
  skip
  clear h hg
  cases ho : d.off
  case true =>
    have hE := gate_off ho i (actE (troom n (d.fl (bi (iv i)))) d) (actD (troom n (d.fl (bi (iv i)))) (tru (bi (iv i)) n) d)
    rw [show trE (iv i) n d = 12 from hE.1, show trD (iv i) n d = d from hE.2]
    rw [ho, if_pos rfl] at HASK
    clear hE ho
    go_enter Try.func53, Try.ntmps53
    go_wp2_with fail
    refine HASK.out.mono ?_
    rintro e w1 ⟨rfl, rfl⟩
    go_wp2_with fail
    go_ret
    exact ⟨rfl, H.out, Tn.refl g _⟩
  have hE : trE (iv i) n d = actE (troom n (d.fl (bi (iv i)))) d ∧ trD (iv i) n d = actD (troom n (d.fl (bi (iv i)))) (tru (bi (iv i)) n) d := gate_on ho i (actE (troom n (d.fl (bi (iv i)))) d) (actD (troom n (d.fl (bi (iv i)))) (tru (bi (iv i)) n) d)
  rw [ho, if_neg (by decide)] at HASK
  rw [bi_iv] at hE
  by_cases t1 : n < 0
  · have hno := act_no (m := troom n (d.fl i)) (by rw [show troom n (d.fl i) = 1 from if_pos (Or.inl t1)]; decide) (tru i n) d
    rw [show trE (iv i) n d = 1 from hE.1.trans (hno.1.trans (if_pos (Or.inl t1))), show trD (iv i) n d = d from hE.2.trans hno.2]
    have t1b : decide (n < 0) = true := decide_eq_true t1
    clear hE hno ho t1
    go_enter Try.func53, Try.ntmps53
    go_wp2_with fail
    refine HASK.out.mono ?_
    rintro e w1 ⟨rfl, rfl⟩
    go_wp2_with fail
    go_ret
    exact ⟨rfl, H.out, Tn.refl g _⟩
  have t1b : decide (n < 0) = false := decide_eq_false t1
  obtain ⟨v0, v1, v2, v3, HA, V0, V1, V2, V3⟩ := H.out.ex
  obtain ⟨A0, c0, rfl⟩ := Kd.V_slice V0
  obtain ⟨A2, c2, rfl⟩ := Kd.V_slice V2
  have x0 : w.cell? ⟨g, 0, none⟩ = some (.slice A0 d.a.now.length c0) := HA.cell 0
  have x3 : w.cell? ⟨g, 3, none⟩ = some (.slice A2 d.b.now.length c2) := HA.cell 3
  clear HA V0 V1 V2 V3
  by_cases t2 : ((d.fl i).now.length : Int) < n
  · have hno := act_no (m := troom n (d.fl i)) (by rw [show troom n (d.fl i) = 1 from if_pos (Or.inr t2)]; decide) (tru i n) d
    rw [show trE (iv i) n d = 1 from hE.1.trans (hno.1.trans (if_pos (Or.inr t2))), show trD (iv i) n d = d from hE.2.trans hno.2]
    clear hE hno ho t1
    cases i <;> simp only [iv] at HASK ⊢
    · have t2b : decide (n > (d.a.now.length : Int)) = true := decide_eq_true t2
      have t2c : decide ((d.a.now.length : Int) < n) = true := decide_eq_true t2
      clear t2
      go_enter Try.func53, Try.ntmps53
      go_wp2_with fail
      refine HASK.out.mono ?_
      rintro e w1 ⟨rfl, rfl⟩
      go_wp2_with fail
      go_ret
      exact ⟨rfl, H.out, Tn.refl g _⟩
    · have t2b : decide (n > (d.b.now.length : Int)) = true := decide_eq_true t2
      have t2c : decide ((d.b.now.length : Int) < n) = true := decide_eq_true t2
      clear t2
      go_enter Try.func53, Try.ntmps53
      go_wp2_with fail
      refine HASK.out.mono ?_
      rintro e w1 ⟨rfl, rfl⟩
      go_wp2_with fail
      go_ret
      exact ⟨rfl, H.out, Tn.refl g _⟩
  have htr : troom n (d.fl i) = 0 := if_neg (fun hh => hh.elim t1 t2)
  replace hE : trE (iv i) n d = actE 0 d ∧ trD (iv i) n d = actD 0 (tru i n) d := ⟨hE.1.trans (by rw [htr]), hE.2.trans (by rw [htr])⟩
  have HBU := Aside0.mk (rburns.calls H.out HG.out.fuse)
  have hoB := act_bu (tru i n) d
  rw [show trE (iv i) n d = buE d from hE.1.trans (act_buE d), show trD (iv i) n d = if buB d = true then (tru i n) (buD d) else buD d from hE.2.trans hoB]
  clear hE hoB ho
  obtain ⟨B, hB⟩ : ∃ B, B = buB d := ⟨_, rfl⟩
  obtain ⟨E, hEE⟩ : ∃ E, E = buE d := ⟨_, rfl⟩
  obtain ⟨d1, hd1⟩ : ∃ d1, d1 = buD d := ⟨_, rfl⟩

  have hd0 : d1.a = d.a ∧ d1.b = d.b := by rw [hd1]; exact ⟨(buD_fl d).1, (buD_fl d).2.1⟩
  have HD0 := Aside0.mk hd0
  clear hd0

  rw [← hB, ← hEE, ← hd1] at HBU
  rw [← hB, ← hEE, ← hd1]
  obtain ⟨D2, hD2⟩ : ∃ D2, D2 = (if B = true then (tru i n) d1 else d1) := ⟨_, rfl⟩
  rw [← hD2]
  have HD2 := Aside0.mk hD2
  clear hB hEE hd1 hD2
  have HCU := Aside0.mk (show -1 ≤ (d.fl i).cut by rcases (flok HG.out i).cut with h | h <;> omega)
  clear htr
  have HT12 := Aside0.mk (And.intro t1 t2)
  cases i <;> simp only [iv] at HASK ⊢
  · have t2b : decide (n > (d.a.now.length : Int)) = false := decide_eq_false t2
    have t2c : decide ((d.a.now.length : Int) < n) = false := decide_eq_false t2
    clear t2 t1
    go_enter Try.func53, Try.ntmps53
    go_wp2_with fail
    refine HASK.out.mono ?_
    rintro e w1 ⟨rfl, rfl⟩
    go_wp2_with fail
    refine HBU.out.mono ?_
    rintro e w2 ⟨rfl, hA, hT⟩
    have HA1 := Aside0.mk hA
    have HT1 := Aside0.mk hT
    clear hA hT x0 x3
    cases B
    · have e2 := HD2.out
      rw [if_neg (by decide)] at e2
      clear HD2
      subst e2
      go_wp2_with fail
      go_ret
      exact ⟨rfl, HA1.out, HT1.out⟩
    have e2 := HD2.out
    rw [if_pos rfl] at e2
    clear HD2
    subst e2
    obtain ⟨v0, v1, v2, v3, HA, V0, V1, V2, V3⟩ := HA1.out.ex
    obtain ⟨A0, c0, rfl⟩ := Kd.V_slice V0
    obtain ⟨A1, c1, rfl⟩ := Kd.V_slice V1
    have hn0 : 0 ≤ n := by have := HT12.out.1; omega
    have hn1 : n ≤ (d1.a.now.length : Int) := by
      have h := HT12.out.2
      have h2 : (d.fl false).now.length = d1.a.now.length := by rw [HD0.out.1]; rfl
      omega
    have V4_ := V_take V0 (m := n.toNat) (by omega)
    have hs := fun W => take23 (A := A0) (c := c0) (xs := d1.a.now) hn0 hn1 (Kd.V_at V0).2.1 W
    have hcu : -1 ≤ d1.a.cut := by rw [HD0.out.1]; exact HCU.out
    obtain ⟨zs, hz⟩ : ∃ zs, zs = d1.a.now.take n.toNat := ⟨_, rfl⟩
    rw [← hz] at V4_ hs
    have V4 := Aside0.mk V4_
    have HZ := Aside0.mk hz
    obtain ⟨q, hq⟩ : ∃ q, q = w2.heap.size := ⟨_, rfl⟩
    have x0 : w2.cell? ⟨g, 0, none⟩ = some (.slice A0 d1.a.now.length c0) := HA.cell 0
    have x1 : w2.cell? ⟨g, 1, none⟩ = some (.slice A1 d1.a.sure.length c1) := HA.cell 1
    have x2 : w2.cell? ⟨g, 2, none⟩ = some (.int .i64 d1.a.cut) := HA.cell 2
    have hgl : g < w2.heap.size := HA.lt
    have HA_ := Aside0.mk HA
    have HV := Aside0.mk (And.intro V0 (And.intro V1 (And.intro V2 V3)))
    have fin : ∀ (cc : Int) (W : World), cc = (if n < (d1.a.sure.length : Int) ∧ (d1.a.cut = -1 ∨ n < d1.a.cut) then n else d1.a.cut) → Blk.At g (cells (.slice A0 zs.length c0) (.slice A1 d1.a.sure.length c1) v2 v3 { d1 with a := ⟨zs, d1.a.sure, cc⟩ }) 65 W → Tn g w2 W → Dr.At g ok (tru false n d1) W := by
      intro cc W hcc hA hT
      subst hcc
      have hz := HZ.out
      have V4 := V4.out
      subst hz
      obtain ⟨V0, V1, V2, V3⟩ := HV.out
      have hn := HA1.out.nok
      exact HA1.out.turn hT hA (V_tn V4 hn hT) (V_tn V1 hn hT) (V_tn V2 hn hT) (V_tn V3 hn hT)
    have FIN := Aside0.mk fin
    clear fin HA V0 V1 V2 V3 V4_ hz
    by_cases k1 : n < (d1.a.sure.length : Int)
    case neg =>
      have k1b : decide (n < (d1.a.sure.length : Int)) = false := decide_eq_false k1
      have K1 := Aside0.mk k1
      clear k1
      go_wp2_with fail
      obtain ⟨W3, hW3⟩ : ∃ W3, W3 = w2.alloc (.cells #[(.slice A0 zs.length c0), (.slice A1 d1.a.sure.length c1), .int .i64 d1.a.cut] 62) := ⟨_, rfl⟩
      rw [← hW3]
      have HB3 := Aside0.mk (show Below w2.heap.size w2 W3 by rw [hW3]; exact below_alloc (Below.refl _ _) _)
      have hQ : Blk.At w2.heap.size #[(.slice A0 zs.length c0), (.slice A1 d1.a.sure.length c1), .int .i64 d1.a.cut] 62 W3 := by rw [hW3]; exact Blk.At.new w2 _ 62
      have q0 : W3.cell? ⟨w2.heap.size, 0, none⟩ = some (.slice A0 zs.length c0) := hQ.cell 0
      have q1 : W3.cell? ⟨w2.heap.size, 1, none⟩ = some (.slice A1 d1.a.sure.length c1) := hQ.cell 1
      have q2 : W3.cell? ⟨w2.heap.size, 2, none⟩ = some (.int .i64 d1.a.cut) := hQ.cell 2
      have HG3 := Aside0.mk (HA_.out.below HB3.out HA1.out.lt)
      have f0 : W3.frozen? ⟨g, 0, none⟩ = false := HG3.out.frozen 0
      have f1 : W3.frozen? ⟨g, 1, none⟩ = false := HG3.out.frozen 1
      have f2 : W3.frozen? ⟨g, 2, none⟩ = false := HG3.out.frozen 2
      have p0 : W3.cell? ⟨g, 0, none⟩ = some (.slice A0 d1.a.now.length c0) := HG3.out.cell 0
      have p1 : W3.cell? ⟨g, 1, none⟩ = some (.slice A1 d1.a.sure.length c1) := HG3.out.cell 1
      have p2 : W3.cell? ⟨g, 2, none⟩ = some (.int .i64 d1.a.cut) := HG3.out.cell 2
      clear hW3 hQ x0 x1 x2 hs hq
      refine start_ (n := 7) (S := fun w' => w'.cell? ⟨w2.heap.size, 0, none⟩ = some (.slice A0 zs.length c0) ∧ w'.cell? ⟨w2.heap.size, 1, none⟩ = some (.slice A1 d1.a.sure.length c1) ∧ w'.cell? ⟨w2.heap.size, 2, none⟩ = some (.int .i64 d1.a.cut)) (ds := [6]) (bl 7 0x0) (by kernel_rfl) rfl (by kernel_rfl) ⟨q0, q1, q2⟩ (fun hHeld => ?_)
      refine pu 0 (some 66) (bl 7 0x1) ?_
      refine pu 1 (some 67) (bl 7 0x3) ?_
      refine pu 3 (some 69) (bl 7 0xb) ?_
      refine pu 4 (some 70) (bl 7 0x1b) ?_
      refine tk 2 (some 68) (bl 7 0x1f) hHeld ?_
      refine pu 5 (some 71) (bl 7 0x3f) ?_
      refine last_ (i := 6) (N := none) (bl 7 0x7f) rfl rfl (by kernel_rfl) (by decide) (fun K hK => ?_)
      refine skip_ (w1 := ?_) (by rfl) rfl ?_ ?_
      rotate_left
      · go_simp
        rfl
      refine hK.out _ _ ?_
      clear hK K
      refine done_ (by kernel_rfl) ?_
      go_wp2_with fail
      have T := ((((Tn.of_below (g := g) HB3.out).set_own 0 (.slice A0 zs.length c0)).set_own 1 (.slice A1 d1.a.sure.length c1)).set_own 2 (.int .i64 d1.a.cut)).drew
      have hA3 := ((HG3.out.set 0 (.slice A0 zs.length c0)).set 1 (.slice A1 d1.a.sure.length c1)).set 2 (.int .i64 d1.a.cut)
      go_ret
      exact ⟨rfl, FIN.out d1.a.cut _ (by rw [if_neg (fun hh => by have h1 := K1.out; have h2 := hh.1; omega)]) hA3 T, HT1.out.trans T⟩
    have k1b : decide (n < (d1.a.sure.length : Int)) = true := decide_eq_true k1
    have K1 := Aside0.mk k1
    clear k1
    by_cases k2 : d1.a.cut < 0
    case pos =>
      have k2b : decide (d1.a.cut < 0) = true := decide_eq_true k2
      have K2 := Aside0.mk (show d1.a.cut = -1 by omega)
      clear k2
      go_wp2_with fail
      obtain ⟨W3, hW3⟩ : ∃ W3, W3 = w2.alloc (.cells #[(.slice A0 zs.length c0), (.slice A1 d1.a.sure.length c1), .int .i64 n] 62) := ⟨_, rfl⟩
      rw [← hW3]
      have HB3 := Aside0.mk (show Below w2.heap.size w2 W3 by rw [hW3]; exact below_alloc (Below.refl _ _) _)
      have hQ : Blk.At w2.heap.size #[(.slice A0 zs.length c0), (.slice A1 d1.a.sure.length c1), .int .i64 n] 62 W3 := by rw [hW3]; exact Blk.At.new w2 _ 62
      have q0 : W3.cell? ⟨w2.heap.size, 0, none⟩ = some (.slice A0 zs.length c0) := hQ.cell 0
      have q1 : W3.cell? ⟨w2.heap.size, 1, none⟩ = some (.slice A1 d1.a.sure.length c1) := hQ.cell 1
      have q2 : W3.cell? ⟨w2.heap.size, 2, none⟩ = some (.int .i64 n) := hQ.cell 2
      have HG3 := Aside0.mk (HA_.out.below HB3.out HA1.out.lt)
      have f0 : W3.frozen? ⟨g, 0, none⟩ = false := HG3.out.frozen 0
      have f1 : W3.frozen? ⟨g, 1, none⟩ = false := HG3.out.frozen 1
      have f2 : W3.frozen? ⟨g, 2, none⟩ = false := HG3.out.frozen 2
      have p0 : W3.cell? ⟨g, 0, none⟩ = some (.slice A0 d1.a.now.length c0) := HG3.out.cell 0
      have p1 : W3.cell? ⟨g, 1, none⟩ = some (.slice A1 d1.a.sure.length c1) := HG3.out.cell 1
      have p2 : W3.cell? ⟨g, 2, none⟩ = some (.int .i64 d1.a.cut) := HG3.out.cell 2
      clear hW3 hQ x0 x1 x2 hs hq
      refine start_ (n := 7) (S := fun w' => w'.cell? ⟨w2.heap.size, 0, none⟩ = some (.slice A0 zs.length c0) ∧ w'.cell? ⟨w2.heap.size, 1, none⟩ = some (.slice A1 d1.a.sure.length c1) ∧ w'.cell? ⟨w2.heap.size, 2, none⟩ = some (.int .i64 n)) (ds := [6]) (bl 7 0x0) (by kernel_rfl) rfl (by kernel_rfl) ⟨q0, q1, q2⟩ (fun hHeld => ?_)
      refine pu 0 (some 66) (bl 7 0x1) ?_
      refine pu 1 (some 67) (bl 7 0x3) ?_
      refine pu 3 (some 69) (bl 7 0xb) ?_
      refine pu 4 (some 70) (bl 7 0x1b) ?_
      refine tk 2 (some 68) (bl 7 0x1f) hHeld ?_
      refine pu 5 (some 71) (bl 7 0x3f) ?_
      refine last_ (i := 6) (N := none) (bl 7 0x7f) rfl rfl (by kernel_rfl) (by decide) (fun K hK => ?_)
      refine skip_ (w1 := ?_) (by rfl) rfl ?_ ?_
      rotate_left
      · go_simp
        rfl
      refine hK.out _ _ ?_
      clear hK K
      refine done_ (by kernel_rfl) ?_
      go_wp2_with fail
      have T := ((((Tn.of_below (g := g) HB3.out).set_own 0 (.slice A0 zs.length c0)).set_own 1 (.slice A1 d1.a.sure.length c1)).set_own 2 (.int .i64 n)).drew
      have hA3 := ((HG3.out.set 0 (.slice A0 zs.length c0)).set 1 (.slice A1 d1.a.sure.length c1)).set 2 (.int .i64 n)
      go_ret
      exact ⟨rfl, FIN.out n _ (by rw [if_pos ⟨K1.out, .inl K2.out⟩]) hA3 T, HT1.out.trans T⟩
    have k2b : decide (d1.a.cut < 0) = false := decide_eq_false k2
    have K2 := Aside0.mk (show ¬ d1.a.cut = -1 by omega)
    clear k2
    by_cases k3 : n < d1.a.cut
    case pos =>
      have k3b : decide (n < d1.a.cut) = true := decide_eq_true k3
      have K3 := Aside0.mk k3
      clear k3
      go_wp2_with fail
      obtain ⟨W3, hW3⟩ : ∃ W3, W3 = w2.alloc (.cells #[(.slice A0 zs.length c0), (.slice A1 d1.a.sure.length c1), .int .i64 n] 62) := ⟨_, rfl⟩
      rw [← hW3]
      have HB3 := Aside0.mk (show Below w2.heap.size w2 W3 by rw [hW3]; exact below_alloc (Below.refl _ _) _)
      have hQ : Blk.At w2.heap.size #[(.slice A0 zs.length c0), (.slice A1 d1.a.sure.length c1), .int .i64 n] 62 W3 := by rw [hW3]; exact Blk.At.new w2 _ 62
      have q0 : W3.cell? ⟨w2.heap.size, 0, none⟩ = some (.slice A0 zs.length c0) := hQ.cell 0
      have q1 : W3.cell? ⟨w2.heap.size, 1, none⟩ = some (.slice A1 d1.a.sure.length c1) := hQ.cell 1
      have q2 : W3.cell? ⟨w2.heap.size, 2, none⟩ = some (.int .i64 n) := hQ.cell 2
      have HG3 := Aside0.mk (HA_.out.below HB3.out HA1.out.lt)
      have f0 : W3.frozen? ⟨g, 0, none⟩ = false := HG3.out.frozen 0
      have f1 : W3.frozen? ⟨g, 1, none⟩ = false := HG3.out.frozen 1
      have f2 : W3.frozen? ⟨g, 2, none⟩ = false := HG3.out.frozen 2
      have p0 : W3.cell? ⟨g, 0, none⟩ = some (.slice A0 d1.a.now.length c0) := HG3.out.cell 0
      have p1 : W3.cell? ⟨g, 1, none⟩ = some (.slice A1 d1.a.sure.length c1) := HG3.out.cell 1
      have p2 : W3.cell? ⟨g, 2, none⟩ = some (.int .i64 d1.a.cut) := HG3.out.cell 2
      clear hW3 hQ x0 x1 x2 hs hq
      refine start_ (n := 7) (S := fun w' => w'.cell? ⟨w2.heap.size, 0, none⟩ = some (.slice A0 zs.length c0) ∧ w'.cell? ⟨w2.heap.size, 1, none⟩ = some (.slice A1 d1.a.sure.length c1) ∧ w'.cell? ⟨w2.heap.size, 2, none⟩ = some (.int .i64 n)) (ds := [6]) (bl 7 0x0) (by kernel_rfl) rfl (by kernel_rfl) ⟨q0, q1, q2⟩ (fun hHeld => ?_)
      refine pu 0 (some 66) (bl 7 0x1) ?_
      refine pu 1 (some 67) (bl 7 0x3) ?_
      refine pu 3 (some 69) (bl 7 0xb) ?_
      refine pu 4 (some 70) (bl 7 0x1b) ?_
      refine tk 2 (some 68) (bl 7 0x1f) hHeld ?_
      refine pu 5 (some 71) (bl 7 0x3f) ?_
      refine last_ (i := 6) (N := none) (bl 7 0x7f) rfl rfl (by kernel_rfl) (by decide) (fun K hK => ?_)
      refine skip_ (w1 := ?_) (by rfl) rfl ?_ ?_
      rotate_left
      · go_simp
        rfl
      refine hK.out _ _ ?_
      clear hK K
      refine done_ (by kernel_rfl) ?_
      go_wp2_with fail
      have T := ((((Tn.of_below (g := g) HB3.out).set_own 0 (.slice A0 zs.length c0)).set_own 1 (.slice A1 d1.a.sure.length c1)).set_own 2 (.int .i64 n)).drew
      have hA3 := ((HG3.out.set 0 (.slice A0 zs.length c0)).set 1 (.slice A1 d1.a.sure.length c1)).set 2 (.int .i64 n)
      go_ret
      exact ⟨rfl, FIN.out n _ (by rw [if_pos ⟨K1.out, .inr K3.out⟩]) hA3 T, HT1.out.trans T⟩
    have k3b : decide (n < d1.a.cut) = false := decide_eq_false k3
    have K3 := Aside0.mk k3
    clear k3
    go_wp2_with fail
    obtain ⟨W3, hW3⟩ : ∃ W3, W3 = w2.alloc (.cells #[(.slice A0 zs.length c0), (.slice A1 d1.a.sure.length c1), .int .i64 d1.a.cut] 62) := ⟨_, rfl⟩
    rw [← hW3]
    have HB3 := Aside0.mk (show Below w2.heap.size w2 W3 by rw [hW3]; exact below_alloc (Below.refl _ _) _)
    have hQ : Blk.At w2.heap.size #[(.slice A0 zs.length c0), (.slice A1 d1.a.sure.length c1), .int .i64 d1.a.cut] 62 W3 := by rw [hW3]; exact Blk.At.new w2 _ 62
    have q0 : W3.cell? ⟨w2.heap.size, 0, none⟩ = some (.slice A0 zs.length c0) := hQ.cell 0
    have q1 : W3.cell? ⟨w2.heap.size, 1, none⟩ = some (.slice A1 d1.a.sure.length c1) := hQ.cell 1
    have q2 : W3.cell? ⟨w2.heap.size, 2, none⟩ = some (.int .i64 d1.a.cut) := hQ.cell 2
    have HG3 := Aside0.mk (HA_.out.below HB3.out HA1.out.lt)
    have f0 : W3.frozen? ⟨g, 0, none⟩ = false := HG3.out.frozen 0
    have f1 : W3.frozen? ⟨g, 1, none⟩ = false := HG3.out.frozen 1
    have f2 : W3.frozen? ⟨g, 2, none⟩ = false := HG3.out.frozen 2
    have p0 : W3.cell? ⟨g, 0, none⟩ = some (.slice A0 d1.a.now.length c0) := HG3.out.cell 0
    have p1 : W3.cell? ⟨g, 1, none⟩ = some (.slice A1 d1.a.sure.length c1) := HG3.out.cell 1
    have p2 : W3.cell? ⟨g, 2, none⟩ = some (.int .i64 d1.a.cut) := HG3.out.cell 2
    clear hW3 hQ x0 x1 x2 hs hq
    refine start_ (n := 7) (S := fun w' => w'.cell? ⟨w2.heap.size, 0, none⟩ = some (.slice A0 zs.length c0) ∧ w'.cell? ⟨w2.heap.size, 1, none⟩ = some (.slice A1 d1.a.sure.length c1) ∧ w'.cell? ⟨w2.heap.size, 2, none⟩ = some (.int .i64 d1.a.cut)) (ds := [6]) (bl 7 0x0) (by kernel_rfl) rfl (by kernel_rfl) ⟨q0, q1, q2⟩ (fun hHeld => ?_)
    refine pu 0 (some 66) (bl 7 0x1) ?_
    refine pu 1 (some 67) (bl 7 0x3) ?_
    refine pu 3 (some 69) (bl 7 0xb) ?_
    refine pu 4 (some 70) (bl 7 0x1b) ?_
    refine tk 2 (some 68) (bl 7 0x1f) hHeld ?_
    refine pu 5 (some 71) (bl 7 0x3f) ?_
    refine last_ (i := 6) (N := none) (bl 7 0x7f) rfl rfl (by kernel_rfl) (by decide) (fun K hK => ?_)
    refine skip_ (w1 := ?_) (by rfl) rfl ?_ ?_
    rotate_left
    · go_simp
      rfl
    refine hK.out _ _ ?_
    clear hK K
    refine done_ (by kernel_rfl) ?_
    go_wp2_with fail
    have T := ((((Tn.of_below (g := g) HB3.out).set_own 0 (.slice A0 zs.length c0)).set_own 1 (.slice A1 d1.a.sure.length c1)).set_own 2 (.int .i64 d1.a.cut)).drew
    have hA3 := ((HG3.out.set 0 (.slice A0 zs.length c0)).set 1 (.slice A1 d1.a.sure.length c1)).set 2 (.int .i64 d1.a.cut)
    go_ret
    exact ⟨rfl, FIN.out d1.a.cut _ (by rw [if_neg (fun hh => by have h2 := K2.out; have h3 := K3.out; rcases hh.2 with h | h <;> omega)]) hA3 T, HT1.out.trans T⟩
  · have t2b : decide (n > (d.b.now.length : Int)) = false := decide_eq_false t2
    have t2c : decide ((d.b.now.length : Int) < n) = false := decide_eq_false t2
    clear t2 t1
    go_enter Try.func53, Try.ntmps53
    go_wp2_with fail
    refine HASK.out.mono ?_
    rintro e w1 ⟨rfl, rfl⟩
    go_wp2_with fail
    refine HBU.out.mono ?_
    rintro e w2 ⟨rfl, hA, hT⟩
    have HA1 := Aside0.mk hA
    have HT1 := Aside0.mk hT
    clear hA hT x0 x3
    cases B
    · have e2 := HD2.out
      rw [if_neg (by decide)] at e2
      clear HD2
      subst e2
      go_wp2_with fail
      go_ret
      exact ⟨rfl, HA1.out, HT1.out⟩
    have e2 := HD2.out
    rw [if_pos rfl] at e2
    clear HD2
    subst e2
    obtain ⟨v0, v1, v2, v3, HA, V0, V1, V2, V3⟩ := HA1.out.ex
    obtain ⟨A2, c2, rfl⟩ := Kd.V_slice V2
    obtain ⟨A3, c3, rfl⟩ := Kd.V_slice V3
    have hn0 : 0 ≤ n := by have := HT12.out.1; omega
    have hn1 : n ≤ (d1.b.now.length : Int) := by
      have h := HT12.out.2
      have h2 : (d.fl true).now.length = d1.b.now.length := by rw [HD0.out.2]; rfl
      omega
    have V4_ := V_take V2 (m := n.toNat) (by omega)
    have hs := fun W => take23 (A := A2) (c := c2) (xs := d1.b.now) hn0 hn1 (Kd.V_at V2).2.1 W
    have hcu : -1 ≤ d1.b.cut := by rw [HD0.out.2]; exact HCU.out
    obtain ⟨zs, hz⟩ : ∃ zs, zs = d1.b.now.take n.toNat := ⟨_, rfl⟩
    rw [← hz] at V4_ hs
    have V4 := Aside0.mk V4_
    have HZ := Aside0.mk hz
    obtain ⟨q, hq⟩ : ∃ q, q = w2.heap.size := ⟨_, rfl⟩
    have x0 : w2.cell? ⟨g, 3, none⟩ = some (.slice A2 d1.b.now.length c2) := HA.cell 3
    have x1 : w2.cell? ⟨g, 4, none⟩ = some (.slice A3 d1.b.sure.length c3) := HA.cell 4
    have x2 : w2.cell? ⟨g, 5, none⟩ = some (.int .i64 d1.b.cut) := HA.cell 5
    have hgl : g < w2.heap.size := HA.lt
    have HA_ := Aside0.mk HA
    have HV := Aside0.mk (And.intro V0 (And.intro V1 (And.intro V2 V3)))
    have fin : ∀ (cc : Int) (W : World), cc = (if n < (d1.b.sure.length : Int) ∧ (d1.b.cut = -1 ∨ n < d1.b.cut) then n else d1.b.cut) → Blk.At g (cells v0 v1 (.slice A2 zs.length c2) (.slice A3 d1.b.sure.length c3) { d1 with b := ⟨zs, d1.b.sure, cc⟩ }) 65 W → Tn g w2 W → Dr.At g ok (tru true n d1) W := by
      intro cc W hcc hA hT
      subst hcc
      have hz := HZ.out
      have V4 := V4.out
      subst hz
      obtain ⟨V0, V1, V2, V3⟩ := HV.out
      have hn := HA1.out.nok
      exact HA1.out.turn hT hA (V_tn V0 hn hT) (V_tn V1 hn hT) (V_tn V4 hn hT) (V_tn V3 hn hT)
    have FIN := Aside0.mk fin
    clear fin HA V0 V1 V2 V3 V4_ hz
    by_cases k1 : n < (d1.b.sure.length : Int)
    case neg =>
      have k1b : decide (n < (d1.b.sure.length : Int)) = false := decide_eq_false k1
      have K1 := Aside0.mk k1
      clear k1
      go_wp2_with fail
      obtain ⟨W3, hW3⟩ : ∃ W3, W3 = w2.alloc (.cells #[(.slice A2 zs.length c2), (.slice A3 d1.b.sure.length c3), .int .i64 d1.b.cut] 62) := ⟨_, rfl⟩
      rw [← hW3]
      have HB3 := Aside0.mk (show Below w2.heap.size w2 W3 by rw [hW3]; exact below_alloc (Below.refl _ _) _)
      have hQ : Blk.At w2.heap.size #[(.slice A2 zs.length c2), (.slice A3 d1.b.sure.length c3), .int .i64 d1.b.cut] 62 W3 := by rw [hW3]; exact Blk.At.new w2 _ 62
      have q0 : W3.cell? ⟨w2.heap.size, 0, none⟩ = some (.slice A2 zs.length c2) := hQ.cell 0
      have q1 : W3.cell? ⟨w2.heap.size, 1, none⟩ = some (.slice A3 d1.b.sure.length c3) := hQ.cell 1
      have q2 : W3.cell? ⟨w2.heap.size, 2, none⟩ = some (.int .i64 d1.b.cut) := hQ.cell 2
      have HG3 := Aside0.mk (HA_.out.below HB3.out HA1.out.lt)
      have f0 : W3.frozen? ⟨g, 3, none⟩ = false := HG3.out.frozen 3
      have f1 : W3.frozen? ⟨g, 4, none⟩ = false := HG3.out.frozen 4
      have f2 : W3.frozen? ⟨g, 5, none⟩ = false := HG3.out.frozen 5
      have p0 : W3.cell? ⟨g, 3, none⟩ = some (.slice A2 d1.b.now.length c2) := HG3.out.cell 3
      have p1 : W3.cell? ⟨g, 4, none⟩ = some (.slice A3 d1.b.sure.length c3) := HG3.out.cell 4
      have p2 : W3.cell? ⟨g, 5, none⟩ = some (.int .i64 d1.b.cut) := HG3.out.cell 5
      clear hW3 hQ x0 x1 x2 hs hq
      refine start_ (n := 7) (S := fun w' => w'.cell? ⟨w2.heap.size, 0, none⟩ = some (.slice A2 zs.length c2) ∧ w'.cell? ⟨w2.heap.size, 1, none⟩ = some (.slice A3 d1.b.sure.length c3) ∧ w'.cell? ⟨w2.heap.size, 2, none⟩ = some (.int .i64 d1.b.cut)) (ds := [6]) (bl 7 0x0) (by kernel_rfl) rfl (by kernel_rfl) ⟨q0, q1, q2⟩ (fun hHeld => ?_)
      refine pu 0 (some 66) (bl 7 0x1) ?_
      refine pu 1 (some 67) (bl 7 0x3) ?_
      refine pu 3 (some 69) (bl 7 0xb) ?_
      refine pu 4 (some 70) (bl 7 0x1b) ?_
      refine tk 2 (some 68) (bl 7 0x1f) hHeld ?_
      refine pu 5 (some 71) (bl 7 0x3f) ?_
      refine last_ (i := 6) (N := none) (bl 7 0x7f) rfl rfl (by kernel_rfl) (by decide) (fun K hK => ?_)
      refine skip_ (w1 := ?_) (by rfl) rfl ?_ ?_
      rotate_left
      · go_simp
        rfl
      refine hK.out _ _ ?_
      clear hK K
      refine done_ (by kernel_rfl) ?_
      go_wp2_with fail
      have T := ((((Tn.of_below (g := g) HB3.out).set_own 3 (.slice A2 zs.length c2)).set_own 4 (.slice A3 d1.b.sure.length c3)).set_own 5 (.int .i64 d1.b.cut)).drew
      have hA3 := ((HG3.out.set 3 (.slice A2 zs.length c2)).set 4 (.slice A3 d1.b.sure.length c3)).set 5 (.int .i64 d1.b.cut)
      go_ret
      exact ⟨rfl, FIN.out d1.b.cut _ (by rw [if_neg (fun hh => by have h1 := K1.out; have h2 := hh.1; omega)]) hA3 T, HT1.out.trans T⟩
    have k1b : decide (n < (d1.b.sure.length : Int)) = true := decide_eq_true k1
    have K1 := Aside0.mk k1
    clear k1
    by_cases k2 : d1.b.cut < 0
    case pos =>
      have k2b : decide (d1.b.cut < 0) = true := decide_eq_true k2
      have K2 := Aside0.mk (show d1.b.cut = -1 by omega)
      clear k2
      go_wp2_with fail
      obtain ⟨W3, hW3⟩ : ∃ W3, W3 = w2.alloc (.cells #[(.slice A2 zs.length c2), (.slice A3 d1.b.sure.length c3), .int .i64 n] 62) := ⟨_, rfl⟩
      rw [← hW3]
      have HB3 := Aside0.mk (show Below w2.heap.size w2 W3 by rw [hW3]; exact below_alloc (Below.refl _ _) _)
      have hQ : Blk.At w2.heap.size #[(.slice A2 zs.length c2), (.slice A3 d1.b.sure.length c3), .int .i64 n] 62 W3 := by rw [hW3]; exact Blk.At.new w2 _ 62
      have q0 : W3.cell? ⟨w2.heap.size, 0, none⟩ = some (.slice A2 zs.length c2) := hQ.cell 0
      have q1 : W3.cell? ⟨w2.heap.size, 1, none⟩ = some (.slice A3 d1.b.sure.length c3) := hQ.cell 1
      have q2 : W3.cell? ⟨w2.heap.size, 2, none⟩ = some (.int .i64 n) := hQ.cell 2
      have HG3 := Aside0.mk (HA_.out.below HB3.out HA1.out.lt)
      have f0 : W3.frozen? ⟨g, 3, none⟩ = false := HG3.out.frozen 3
      have f1 : W3.frozen? ⟨g, 4, none⟩ = false := HG3.out.frozen 4
      have f2 : W3.frozen? ⟨g, 5, none⟩ = false := HG3.out.frozen 5
      have p0 : W3.cell? ⟨g, 3, none⟩ = some (.slice A2 d1.b.now.length c2) := HG3.out.cell 3
      have p1 : W3.cell? ⟨g, 4, none⟩ = some (.slice A3 d1.b.sure.length c3) := HG3.out.cell 4
      have p2 : W3.cell? ⟨g, 5, none⟩ = some (.int .i64 d1.b.cut) := HG3.out.cell 5
      clear hW3 hQ x0 x1 x2 hs hq
      refine start_ (n := 7) (S := fun w' => w'.cell? ⟨w2.heap.size, 0, none⟩ = some (.slice A2 zs.length c2) ∧ w'.cell? ⟨w2.heap.size, 1, none⟩ = some (.slice A3 d1.b.sure.length c3) ∧ w'.cell? ⟨w2.heap.size, 2, none⟩ = some (.int .i64 n)) (ds := [6]) (bl 7 0x0) (by kernel_rfl) rfl (by kernel_rfl) ⟨q0, q1, q2⟩ (fun hHeld => ?_)
      refine pu 0 (some 66) (bl 7 0x1) ?_
      refine pu 1 (some 67) (bl 7 0x3) ?_
      refine pu 3 (some 69) (bl 7 0xb) ?_
      refine pu 4 (some 70) (bl 7 0x1b) ?_
      refine tk 2 (some 68) (bl 7 0x1f) hHeld ?_
      refine pu 5 (some 71) (bl 7 0x3f) ?_
      refine last_ (i := 6) (N := none) (bl 7 0x7f) rfl rfl (by kernel_rfl) (by decide) (fun K hK => ?_)
      refine skip_ (w1 := ?_) (by rfl) rfl ?_ ?_
      rotate_left
      · go_simp
        rfl
      refine hK.out _ _ ?_
      clear hK K
      refine done_ (by kernel_rfl) ?_
      go_wp2_with fail
      have T := ((((Tn.of_below (g := g) HB3.out).set_own 3 (.slice A2 zs.length c2)).set_own 4 (.slice A3 d1.b.sure.length c3)).set_own 5 (.int .i64 n)).drew
      have hA3 := ((HG3.out.set 3 (.slice A2 zs.length c2)).set 4 (.slice A3 d1.b.sure.length c3)).set 5 (.int .i64 n)
      go_ret
      exact ⟨rfl, FIN.out n _ (by rw [if_pos ⟨K1.out, .inl K2.out⟩]) hA3 T, HT1.out.trans T⟩
    have k2b : decide (d1.b.cut < 0) = false := decide_eq_false k2
    have K2 := Aside0.mk (show ¬ d1.b.cut = -1 by omega)
    clear k2
    by_cases k3 : n < d1.b.cut
    case pos =>
      have k3b : decide (n < d1.b.cut) = true := decide_eq_true k3
      have K3 := Aside0.mk k3
      clear k3
      go_wp2_with fail
      obtain ⟨W3, hW3⟩ : ∃ W3, W3 = w2.alloc (.cells #[(.slice A2 zs.length c2), (.slice A3 d1.b.sure.length c3), .int .i64 n] 62) := ⟨_, rfl⟩
      rw [← hW3]
      have HB3 := Aside0.mk (show Below w2.heap.size w2 W3 by rw [hW3]; exact below_alloc (Below.refl _ _) _)
      have hQ : Blk.At w2.heap.size #[(.slice A2 zs.length c2), (.slice A3 d1.b.sure.length c3), .int .i64 n] 62 W3 := by rw [hW3]; exact Blk.At.new w2 _ 62
      have q0 : W3.cell? ⟨w2.heap.size, 0, none⟩ = some (.slice A2 zs.length c2) := hQ.cell 0
      have q1 : W3.cell? ⟨w2.heap.size, 1, none⟩ = some (.slice A3 d1.b.sure.length c3) := hQ.cell 1
      have q2 : W3.cell? ⟨w2.heap.size, 2, none⟩ = some (.int .i64 n) := hQ.cell 2
      have HG3 := Aside0.mk (HA_.out.below HB3.out HA1.out.lt)
      have f0 : W3.frozen? ⟨g, 3, none⟩ = false := HG3.out.frozen 3
      have f1 : W3.frozen? ⟨g, 4, none⟩ = false := HG3.out.frozen 4
      have f2 : W3.frozen? ⟨g, 5, none⟩ = false := HG3.out.frozen 5
      have p0 : W3.cell? ⟨g, 3, none⟩ = some (.slice A2 d1.b.now.length c2) := HG3.out.cell 3
      have p1 : W3.cell? ⟨g, 4, none⟩ = some (.slice A3 d1.b.sure.length c3) := HG3.out.cell 4
      have p2 : W3.cell? ⟨g, 5, none⟩ = some (.int .i64 d1.b.cut) := HG3.out.cell 5
      clear hW3 hQ x0 x1 x2 hs hq
      refine start_ (n := 7) (S := fun w' => w'.cell? ⟨w2.heap.size, 0, none⟩ = some (.slice A2 zs.length c2) ∧ w'.cell? ⟨w2.heap.size, 1, none⟩ = some (.slice A3 d1.b.sure.length c3) ∧ w'.cell? ⟨w2.heap.size, 2, none⟩ = some (.int .i64 n)) (ds := [6]) (bl 7 0x0) (by kernel_rfl) rfl (by kernel_rfl) ⟨q0, q1, q2⟩ (fun hHeld => ?_)
      refine pu 0 (some 66) (bl 7 0x1) ?_
      refine pu 1 (some 67) (bl 7 0x3) ?_
      refine pu 3 (some 69) (bl 7 0xb) ?_
      refine pu 4 (some 70) (bl 7 0x1b) ?_
      refine tk 2 (some 68) (bl 7 0x1f) hHeld ?_
      refine pu 5 (some 71) (bl 7 0x3f) ?_
      refine last_ (i := 6) (N := none) (bl 7 0x7f) rfl rfl (by kernel_rfl) (by decide) (fun K hK => ?_)
      refine skip_ (w1 := ?_) (by rfl) rfl ?_ ?_
      rotate_left
      · go_simp
        rfl
      refine hK.out _ _ ?_
      clear hK K
      refine done_ (by kernel_rfl) ?_
      go_wp2_with fail
      have T := ((((Tn.of_below (g := g) HB3.out).set_own 3 (.slice A2 zs.length c2)).set_own 4 (.slice A3 d1.b.sure.length c3)).set_own 5 (.int .i64 n)).drew
      have hA3 := ((HG3.out.set 3 (.slice A2 zs.length c2)).set 4 (.slice A3 d1.b.sure.length c3)).set 5 (.int .i64 n)
      go_ret
      exact ⟨rfl, FIN.out n _ (by rw [if_pos ⟨K1.out, .inr K3.out⟩]) hA3 T, HT1.out.trans T⟩
    have k3b : decide (n < d1.b.cut) = false := decide_eq_false k3
    have K3 := Aside0.mk k3
    clear k3
    go_wp2_with fail
    obtain ⟨W3, hW3⟩ : ∃ W3, W3 = w2.alloc (.cells #[(.slice A2 zs.length c2), (.slice A3 d1.b.sure.length c3), .int .i64 d1.b.cut] 62) := ⟨_, rfl⟩
    rw [← hW3]
    have HB3 := Aside0.mk (show Below w2.heap.size w2 W3 by rw [hW3]; exact below_alloc (Below.refl _ _) _)
    have hQ : Blk.At w2.heap.size #[(.slice A2 zs.length c2), (.slice A3 d1.b.sure.length c3), .int .i64 d1.b.cut] 62 W3 := by rw [hW3]; exact Blk.At.new w2 _ 62
    have q0 : W3.cell? ⟨w2.heap.size, 0, none⟩ = some (.slice A2 zs.length c2) := hQ.cell 0
    have q1 : W3.cell? ⟨w2.heap.size, 1, none⟩ = some (.slice A3 d1.b.sure.length c3) := hQ.cell 1
    have q2 : W3.cell? ⟨w2.heap.size, 2, none⟩ = some (.int .i64 d1.b.cut) := hQ.cell 2
    have HG3 := Aside0.mk (HA_.out.below HB3.out HA1.out.lt)
    have f0 : W3.frozen? ⟨g, 3, none⟩ = false := HG3.out.frozen 3
    have f1 : W3.frozen? ⟨g, 4, none⟩ = false := HG3.out.frozen 4
    have f2 : W3.frozen? ⟨g, 5, none⟩ = false := HG3.out.frozen 5
    have p0 : W3.cell? ⟨g, 3, none⟩ = some (.slice A2 d1.b.now.length c2) := HG3.out.cell 3
    have p1 : W3.cell? ⟨g, 4, none⟩ = some (.slice A3 d1.b.sure.length c3) := HG3.out.cell 4
    have p2 : W3.cell? ⟨g, 5, none⟩ = some (.int .i64 d1.b.cut) := HG3.out.cell 5
    clear hW3 hQ x0 x1 x2 hs hq
    refine start_ (n := 7) (S := fun w' => w'.cell? ⟨w2.heap.size, 0, none⟩ = some (.slice A2 zs.length c2) ∧ w'.cell? ⟨w2.heap.size, 1, none⟩ = some (.slice A3 d1.b.sure.length c3) ∧ w'.cell? ⟨w2.heap.size, 2, none⟩ = some (.int .i64 d1.b.cut)) (ds := [6]) (bl 7 0x0) (by kernel_rfl) rfl (by kernel_rfl) ⟨q0, q1, q2⟩ (fun hHeld => ?_)
    refine pu 0 (some 66) (bl 7 0x1) ?_
    refine pu 1 (some 67) (bl 7 0x3) ?_
    refine pu 3 (some 69) (bl 7 0xb) ?_
    refine pu 4 (some 70) (bl 7 0x1b) ?_
    refine tk 2 (some 68) (bl 7 0x1f) hHeld ?_
    refine pu 5 (some 71) (bl 7 0x3f) ?_
    refine last_ (i := 6) (N := none) (bl 7 0x7f) rfl rfl (by kernel_rfl) (by decide) (fun K hK => ?_)
    refine skip_ (w1 := ?_) (by rfl) rfl ?_ ?_
    rotate_left
    · go_simp
      rfl
    refine hK.out _ _ ?_
    clear hK K
    refine done_ (by kernel_rfl) ?_
    go_wp2_with fail
    have T := ((((Tn.of_below (g := g) HB3.out).set_own 3 (.slice A2 zs.length c2)).set_own 4 (.slice A3 d1.b.sure.length c3)).set_own 5 (.int .i64 d1.b.cut)).drew
    have hA3 := ((HG3.out.set 3 (.slice A2 zs.length c2)).set 4 (.slice A3 d1.b.sure.length c3)).set 5 (.int .i64 d1.b.cut)
    go_ret
    exact ⟨rfl, FIN.out d1.b.cut _ (by rw [if_neg (fun hh => by have h2 := K2.out; have h3 := K3.out; rcases hh.2 with h | h <;> omega)]) hA3 T, HT1.out.trans T⟩
theorem results_row2 {fn : Func} {p u : Tmp} {ty : TypeId} (h : fn.results = #[.cell p ty, .tmp u]) {tmps : Array Value} {w : World} {g : Nat} {cs : Array Value}
    (hp : tmps.getD p undef = .pointer (some ⟨g, 0, none⟩)) (hl : (loadVar ty ⟨g, 0, none⟩).run Try.prog w = .ok (.agg cs) w) :
    (results fn tmps).run Try.prog w = .ok (.tuple #[.agg cs, tmps.getD u undef]) w := by
  have hp' : tmps[p]?.getD undef = .pointer (some ⟨g, 0, none⟩) := by simpa using hp
  simp [results, h, Sem.run_bind, Result.andThen, hp', asAddr, hl]
theorem results_row3 {fn : Func} {p u v : Tmp} {ty : TypeId} (h : fn.results = #[.cell p ty, .tmp u, .tmp v]) {tmps : Array Value} {w : World} {g : Nat} {cs : Array Value}
    (hp : tmps.getD p undef = .pointer (some ⟨g, 0, none⟩)) (hl : (loadVar ty ⟨g, 0, none⟩).run Try.prog w = .ok (.agg cs) w) :
    (results fn tmps).run Try.prog w = .ok (.tuple #[.agg cs, tmps.getD u undef, tmps.getD v undef]) w := by
  have hp' : tmps[p]?.getD undef = .pointer (some ⟨g, 0, none⟩) := by simpa using hp
  simp [results, h, Sem.run_bind, Result.andThen, hp', asAddr, hl]
theorem rNew.good {room : Int} (h0 : 1 ≤ room) (h1 : room ≤ 1048576) (w : World) :
    Calls Try.prog 30 #[.int .i64 room] w fun e w' => e = .returned (.tuple #[.agg #[.slice none 0 0, .slice none 0 0, .int .i64 (-1), .slice none 0 0, .slice none 0 0, .int .i64 (-1), .int .i64 0, .int .i64 room, .bool false, .int .i64 (-1), .bool false], .int .i64 0]) ∧ Below w.heap.size w w' := by
  have b0 : decide (room < 1) = false := decide_eq_false (by omega)
  have b1 : decide (1048576 < room) = false := decide_eq_false (by omega)
  clear h0 h1
  go_enter Try.func30, Try.ntmps30
  go_wp2_with fail
  refine bodyPost_ret (results_row2 (ty := 65) rfl rfl (run_loadVar_row _ _ 65 65 _ _ _ (Blk.At.new w _ 65) Try.underlying65 rfl (by kernel_rfl))) rfl ?_
  exact ⟨rfl, below_alloc (Below.refl _ _) _⟩
theorem rNew.bad {room : Int} (h : room < 1 ∨ 1048576 < room) (w : World) :
    Calls Try.prog 30 #[.int .i64 room] w fun e w' => e = .returned (.tuple #[.agg #[.slice none 0 0, .slice none 0 0, .int .i64 0, .slice none 0 0, .slice none 0 0, .int .i64 0, .int .i64 0, .int .i64 0, .bool false, .int .i64 0, .bool false], .int .i64 1]) ∧ Below w.heap.size w w' := by
  by_cases h0 : room < 1
  · have b0 : decide (room < 1) = true := decide_eq_true h0
    clear h h0
    go_enter Try.func30, Try.ntmps30
    go_wp2_with fail
    refine bodyPost_ret (results_row2 (ty := 65) rfl rfl (run_loadVar_row _ _ 65 65 _ _ _ (Blk.At.new w _ 65) Try.underlying65 rfl (by kernel_rfl))) rfl ?_
    exact ⟨rfl, below_alloc (Below.refl _ _) _⟩
  · have b0 : decide (room < 1) = false := decide_eq_false h0
    have b1 : decide (1048576 < room) = true := decide_eq_true (by omega)
    clear h h0
    go_enter Try.func30, Try.ntmps30
    go_wp2_with fail
    refine bodyPost_ret (results_row2 (ty := 65) rfl rfl (run_loadVar_row _ _ 65 65 _ _ _ (Blk.At.new w _ 65) Try.underlying65 rfl (by kernel_rfl))) rfl ?_
    exact ⟨rfl, below_alloc (Below.refl _ _) _⟩
end Go.Proofs.Ytdlfabbhdelinaa.Q
