/- The law of a plan that nobody made, walked. No condition but those typed. -/
import Derived.Test.YtomkjakffpomdaaSw5
namespace Go.Proofs.Ytomkjakffpomdaa.Q
open Go.RowKit Go.Maps Go.Sort Go.Shelf Go.Proofs.YtomkjakffpomdaaW.PrintWords Go.Proofs.YtomkjakffpomdaaW.PrintLast Go.Proofs.YtomkjakffpomdaaW.PrintMore
attribute [local go_sem] max2_int min2_int max_two min_two max_three min_three max_four min_four   -- for this text's walks alone
set_option linter.unusedVariables false
set_option linter.unusedSimpArgs false
set_option maxRecDepth 100000
/-- One call of a script. -/
structure Ac where
  kind : Int
  later : Int
  urls : List ByteArray
  url : ByteArray
  n : Int
  good : Bool
def dT : Kd (Int × Int × List ByteArray × ByteArray × Int × Bool) := Kd.pair (Kd.int .u8) (Kd.pair (Kd.int .i64) (Kd.pair (Kd.slice 9 Kd.string) (Kd.pair Kd.string (Kd.pair (Kd.int .i64) Kd.bool))))
def dA : Kd Ac := Kd.iso dT (fun a => (a.kind, a.later, a.urls, a.url, a.n, a.good))
theorem heap_dA : Kd.Heap dA := Kd.heap_iso _ (Kd.heap_pair (Kd.heap_int _) (Kd.heap_pair (Kd.heap_int _) (Kd.heap_pair (Kd.heap_slice 9 Kd.heap_string) (Kd.heap_pair Kd.heap_string (Kd.heap_pair (Kd.heap_int _) Kd.heap_bool)))))
abbrev av (a : Ac) (R : Option Addr) (cr : Nat) : Array Value := #[.int .u8 a.kind, .int .i64 a.later, .slice R a.urls.length cr, .string a.url, .int .i64 a.n, .bool a.good]
theorem dA_open {w : World} {a : Ac} {cs : List Value} (h : dA.K w a cs) : ∃ R cr, cs = (av a R cr).toList ∧ a.urls.length ≤ cr ∧ Kd.string.C w R a.urls.length a.urls := by
  obtain ⟨x0, y0, rfl, h0, x1, y1, rfl, h1, x2, y2, rfl, h2, x3, y3, rfl, h3, x4, y4, rfl, h4, h5⟩ := h
  obtain ⟨R, cr, rfl, hl, hC⟩ := h2
  have e0 : x0 = [.int .u8 a.kind] := h0
  have e1 : x1 = [.int .i64 a.later] := h1
  have e3 : x3 = [.string a.url] := h3
  have e4 : x4 = [.int .i64 a.n] := h4
  have e5 : y4 = [.bool a.good] := h5
  refine ⟨R, cr, ?_, hl, hC⟩
  subst e0 e1 e3 e4 e5
  rfl
theorem dA_shut {w : World} {a : Ac} {R : Option Addr} {cr : Nat} (hl : a.urls.length ≤ cr) (hC : Kd.string.C w R a.urls.length a.urls) : dA.K w a (av a R cr).toList :=
  ⟨[.int .u8 a.kind], _, rfl, rfl, [.int .i64 a.later], _, rfl, rfl, [.slice R a.urls.length cr], _, rfl, ⟨R, cr, rfl, hl, hC⟩, [.string a.url], _, rfl, rfl, [.int .i64 a.n], [.bool a.good], rfl, rfl, rfl⟩
def sh (n : Nat) : Nat := if 80 < n then 80 else n
theorem law_short.calls {A : Option Addr} {n c : Nat} (hc : n ≤ c) (w : World) :
    Calls Try.prog 14 #[.slice A n c] w fun e w' => e = .returned (.slice A (sh n) c) ∧ w' = w := by
  by_cases t : 80 < n
  · rw [show sh n = 80 from if_pos t]
    have t2 : 80 ≤ c := by omega
    go_enter Try.func14, Try.ntmps14
    go_wp2_with fail
    all_goals first | omega | skip
    go_ret
    exact ⟨rfl, rfl⟩
  · rw [show sh n = n from if_neg t]
    go_enter Try.func14, Try.ntmps14
    go_wp2_with fail
    all_goals first | omega | skip
    go_ret
    exact ⟨rfl, rfl⟩
theorem add6 (ad : Addr) (i j : Nat) : (ad.add (i * 6)).add j = ad.add (i * 6 + j) := by
  unfold Addr.add
  split <;> split <;> simp_all <;> omega
theorem script_at {w : World} {A : Option Addr} {n : Nat} {l : List Ac} (h : dA.C w A n l) {i : Nat} (hi : i < l.length) : ∃ ad R cr, A = some ad ∧ (l[i]'hi).urls.length ≤ cr ∧ Kd.string.C w R (l[i]'hi).urls.length (l[i]'hi).urls ∧
    ∀ j v, (av (l[i]'hi) R cr)[j]? = some v → w.cell? ((ad.add (i * 6)).add j) = some v := by
  obtain ⟨ad, hA, hc⟩ := h.2.2 (by have := h.1; omega)
  obtain ⟨cs, hl, hK, hcell⟩ := hc i _ (List.getElem?_eq_getElem hi)
  obtain ⟨R, cr, rfl, hb, hC⟩ := dA_open hK
  refine ⟨ad, R, cr, hA, hb, hC, fun j v hv => ?_⟩
  rw [add6]
  exact hcell j v (by simpa using hv)
/-- What is let in. -/
def Small (l : List Ac) : Prop := ∀ a ∈ l, a.urls.length ≤ 40
def cl9 (k : ByteArray) : Int := if 9000 < (k.size : Int) then 9000 else k.size
theorem cl9_at (k : ByteArray) : 0 ≤ cl9 k ∧ cl9 k ≤ 9000 := by
  unfold cl9
  split <;> omega
theorem far_add {t n : Int} {k : ByteArray} {i : Nat} (h : 0 ≤ t ∧ t ≤ n * 369000 + (i : Int) * 9000) (hn : 0 ≤ n ∧ n ≤ 80) (hi : i ≤ 41) : wrap64 (t + cl9 k) = t + cl9 k ∧ 0 ≤ t + cl9 k ∧ t + cl9 k ≤ n * 369000 + ((i + 1 : Nat) : Int) * 9000 := by
  have := cl9_at k
  refine ⟨?_, by omega, by omega⟩
  unfold wrap64
  omega
theorem far_up {t : Int} {n i : Nat} (h : 0 ≤ t ∧ t ≤ (n : Int) * 369000 + (i : Int) * 9000) (hi : i ≤ 41) : 0 ≤ t ∧ t ≤ ((n + 1 : Nat) : Int) * 369000 + ((0 : Nat) : Int) * 9000 := by
  omega
theorem far_n {n m : Nat} (h : n ≤ m) (hm : m ≤ 80) : 0 ≤ (n : Int) ∧ (n : Int) ≤ 80 := by omega
set_option maxHeartbeats 4000000 in
theorem law_far.calls {w : World} {A : Option Addr} {c : Nat} {l : List Ac} (hC : dA.C w A l.length l) (hc : l.length ≤ c) :
    Calls Try.prog 13 #[.slice A l.length c] w fun e w' => ∃ b, e = .returned (.bool b) ∧ Below w.heap.size w w' ∧ (b = false → Small (l.take (sh l.length))) := by
  have HC := Aside0.mk hC
  have HS := Aside0.mk (law_short.calls (A := A) hc)
  obtain ⟨m, hm⟩ : ∃ m, m = sh l.length := ⟨_, rfl⟩
  have HM := Aside0.mk (show m ≤ l.length ∧ m ≤ 80 from by rw [hm]; unfold sh; split <;> omega)
  rw [← hm] at HS ⊢
  clear hC hc hm
  go_enter Try.func13, Try.ntmps13
  go_wp2_with fail
  refine (HS.out _).mono ?_
  rintro e w1 ⟨rfl, rfl⟩
  have HB0 := Aside0.mk (Below.refl w1.heap.size w1)
  go_wp2_with fail
  go_loopw [3, 11] (fun s j wr => ∃ (n : Nat) (t : Int), n ≤ m ∧ s = .int .i64 t ∧ j = .int .i64 n ∧ Aside0 (Below w1.heap.size w1 wr) ∧ Aside0 ((∀ a ∈ l.take n, a.urls.length ≤ 40) ∧ (0 ≤ t ∧ t ≤ (n : Int) * 369000 + ((0 : Nat) : Int) * 9000))) (fun _ j _ => m - (intOf j).toNat)
  case atStart => exact ⟨0, 0, Nat.zero_le _, rfl, rfl, HB0, ⟨fun a ha => by simp at ha, by simp⟩⟩
  case round =>
    clear HB0
    obtain ⟨n, t0, hn, rfl, rfl, HB, HQ⟩ := hrel
    by_cases hlt : n < m
    · have hl : n < l.length := by have := HM.out; omega
      obtain ⟨ad, R, cr, rfl, hb, hbC, hx⟩ := script_at HC.out hl
      have HTK := Aside0.mk (List.take_succ_eq_append_getElem hl)
      generalize l[n] = a at hb hbC hx HTK
      obtain ⟨X, hX⟩ : ∃ X, X = ad.add (n * 6) := ⟨_, rfl⟩
      have hXe : ad.add (n * 6) = X := hX.symm
      rw [hXe] at hx
      clear hX
      have hx0 : wr.cell? X = some (.int .u8 a.kind) := pw_cell_below HB.out (hx 0 _ rfl)
      have hx1 : wr.cell? ⟨X.block, X.off + 1, none⟩ = some (.int .i64 a.later) := pw_cell_below HB.out (hx 1 _ rfl)
      have hx2 : wr.cell? ⟨X.block, X.off + 2, none⟩ = some (.slice R a.urls.length cr) := pw_cell_below HB.out (hx 2 _ rfl)
      have hx3 : wr.cell? ⟨X.block, X.off + 3, none⟩ = some (.string a.url) := pw_cell_below HB.out (hx 3 _ rfl)
      have hx4 : wr.cell? ⟨X.block, X.off + 4, none⟩ = some (.int .i64 a.n) := pw_cell_below HB.out (hx 4 _ rfl)
      have hx5 : wr.cell? ⟨X.block, X.off + 5, none⟩ = some (.bool a.good) := pw_cell_below HB.out (hx 5 _ rfl)
      have HCR := Aside0.mk hbC
      have en : wrap64 ((n : Int) + 1) = ((n + 1 : Nat) : Int) := w64n (by have := HM.out; omega)
      have HNN := Aside0.mk (far_n hn HM.out.2)
      obtain ⟨hw1, hw2⟩ := far_add (k := a.url) (i := 0) HQ.out.2 HNN.out (by omega)
      have hcl : (if 9000 < (a.url.size : Int) then 9000 else (a.url.size : Int)) = cl9 a.url := rfl
      have HT1 := Aside0.mk hw2
      generalize cl9 a.url = q1 at hw1 hcl HT1
      clear hx hb hbC hw2
      by_cases h40 : 40 < a.urls.length
      · have hb40 : decide ((a.urls.length : Int) > 40) = true := decide_eq_true (by omega)
        have hb40' : (40 : Int) < (a.urls.length : Int) := by omega
        go_wp2_with fail
        go_ret
        exact ⟨true, rfl, HB.out.alloc HB.out.size _, fun h => by cases h⟩
      have hb40 : decide ((a.urls.length : Int) > 40) = false := decide_eq_false (by omega)
      have H40 := Aside0.mk (show a.urls.length ≤ 40 by omega)
      have HBa := Aside0.mk (HB.out.alloc HB.out.size (.cells (av a R cr) 39))
      clear h40
      go_wp2_with fail
      go_loopw [3, 28] (fun s j wq => ∃ (i : Nat) (t : Int), i ≤ a.urls.length ∧ s = .int .i64 t ∧ j = .int .i64 i ∧ Aside0 (Below w1.heap.size w1 wq) ∧ Aside0 (0 ≤ t ∧ t ≤ (n : Int) * 369000 + ((i + 1 : Nat) : Int) * 9000)) (fun _ j _ => a.urls.length - (intOf j).toNat)
      case atStart => exact ⟨0, t0 + q1, Nat.zero_le _, by rw [hw1], rfl, HBa, HT1⟩
      case round =>
        clear hw1 hcl hx0 hx1 hx2 hx3 hx4 hx5
        obtain ⟨i, t1, hi, rfl, rfl, HBq, HT⟩ := hrel
        by_cases hil : i < a.urls.length
        · obtain ⟨adr, rfl, hcs⟩ := Kd.C_strings_cells (Kd.C_below HCR.out HBq.out) (by omega)
          have hxr : wr.cell? (adr.add i) = some (.string a.urls[i]) := hcs i _ (List.getElem?_eq_getElem hil)
          have hwi : wrap64 ((i : Int) + 1) = ((i + 1 : Nat) : Int) := w64n (by have := H40.out; omega)
          obtain ⟨hw1, hw2⟩ := far_add (k := a.urls[i]) (i := i + 1) HT.out HNN.out (by have := H40.out; omega)
          have hcl : (if 9000 < ((a.urls[i]).size : Int) then 9000 else ((a.urls[i]).size : Int)) = cl9 a.urls[i] := rfl
          have HT1 := Aside0.mk hw2
          generalize cl9 a.urls[i] = q2 at hw1 hcl HT1
          generalize a.urls[i] = s at hxr hcl
          have HIL := Aside0.mk hil
          clear hcs hw2
          go_wp2_with fail
          rw [hwi, hw1]
          go_roundw
          case rel => exact ⟨i + 1, _, HIL.out, rfl, rfl, HBq, HT1⟩
          case measure => simp [intOf]; omega
        · obtain rfl : i = a.urls.length := by omega
          go_wp2_with fail
          rw [en]
          go_roundw
          case rel =>
            refine ⟨n + 1, t1, by omega, rfl, rfl, HBq, ⟨fun x hx => ?_, far_up HT.out (by have := H40.out; omega)⟩⟩
            rw [HTK.out] at hx
            rcases List.mem_append.1 hx with hx | hx
            · exact HQ.out.1 x hx
            · rw [List.mem_singleton.1 hx]
              exact H40.out
          case measure => simp [intOf]; omega
    · obtain rfl : n = m := by omega
      go_wp2_with fail
      go_ret
      exact ⟨_, rfl, HB.out, fun h => HQ.out.1⟩
theorem dA_one {g : Nat} {a : Ac} {R : Option Addr} {cr : Nat} {w : World} (h : Blk.At g (av a R cr) 39 w) (hl : a.urls.length ≤ cr) (hC : Kd.string.C w R a.urls.length a.urls) : dA.C w (some ⟨g, 0, none⟩) [a].length [a] := by
  refine ⟨rfl, by simp, fun _ => ⟨⟨g, 0, none⟩, rfl, fun j x hj => ?_⟩⟩
  have hj0 : j = 0 := by
    have := (List.getElem?_eq_some_iff.1 hj).1
    simp at this
    omega
  subst hj0
  simp only [List.getElem?_cons_zero, Option.some.injEq] at hj
  subst hj
  refine ⟨(av a R cr).toList, rfl, dA_shut hl hC, fun i u hu => ?_⟩
  rw [addr_add_zero]
  show w.cell? ⟨g, 0 * 6 + i, none⟩ = some u
  rw [Nat.zero_mul, Nat.zero_add, h.cell i, ← hu]
  simp
/-- What the law asks of a plan that nobody made, at one place. -/
structure DeadAt (v : Value) (g : Nat) (cs : Array Value) (w0 w : World) : Prop where
  dead : Dead v w
  act : Blk.At g cs 39 w
  low : Below w0.heap.size w0 w
theorem DeadAt.below {v : Value} {g : Nat} {cs : Array Value} {w0 w w' : World} (h : DeadAt v g cs w0 w) (hb : Below w.heap.size w w') : DeadAt v g cs w0 w' := ⟨h.dead.below hb, h.act.below hb h.act.lt, h.low.trans (hb.mono h.low.size)⟩
set_option maxHeartbeats 8000000 in
theorem law_Nobody.calls {w : World} (a : Ac) (R : Option Addr) (cr : Nat) (hl : a.urls.length ≤ cr) (hC : Kd.string.C w R a.urls.length a.urls) :
    Calls Try.prog 5 #[.agg (av a R cr)] w fun e w' => e = .returned (.bool true) ∧ Below w.heap.size w w' := by
  have hA1 := Blk.At.new w (av a R cr) 39
  have hb1 := below_alloc (Below.refl _ w) (.cells (av a R cr) 39)
  have hs1 : (w.alloc (.cells (av a R cr) 39)).heap.size = w.heap.size + 1 := size_alloc _ _
  have hA2 := Blk.At.new (w.alloc (.cells (av a R cr) 39)) (av a R cr) 39
  have hb2 := below_alloc (Below.refl _ (w.alloc (.cells (av a R cr) 39))) (.cells (av a R cr) 39)
  obtain ⟨g, hg⟩ : ∃ g, g = w.heap.size := ⟨_, rfl⟩
  have hb12 := hb1.trans (hb2.mono hb1.size)
  have hfar := law_far.calls (dA_one hA2 hl (Kd.C_below hC hb12)) (c := 1) (by simp)
  have hA12 := hA1.below hb2 hA1.lt
  rw [hs1] at hfar
  rw [← hg] at hA1 hA12 hfar
  have HA := Aside0.mk hA12
  have HB := Aside0.mk hb12
  have HF := Aside0.mk hfar
  have HG := Aside0.mk hg
  have y0 : (w.alloc (.cells (av a R cr) 39)).cell? ⟨g, 0, none⟩ = some (.int .u8 a.kind) := hA1.cell 0
  have y1 : (w.alloc (.cells (av a R cr) 39)).cell? ⟨g, 1, none⟩ = some (.int .i64 a.later) := hA1.cell 1
  have y2 : (w.alloc (.cells (av a R cr) 39)).cell? ⟨g, 2, none⟩ = some (.slice R a.urls.length cr) := hA1.cell 2
  have y3 : (w.alloc (.cells (av a R cr) 39)).cell? ⟨g, 3, none⟩ = some (.string a.url) := hA1.cell 3
  have y4 : (w.alloc (.cells (av a R cr) 39)).cell? ⟨g, 4, none⟩ = some (.int .i64 a.n) := hA1.cell 4
  have y5 : (w.alloc (.cells (av a R cr) 39)).cell? ⟨g, 5, none⟩ = some (.bool a.good) := hA1.cell 5
  clear hA1 hb1 hA2 hb2 hb12 hfar hA12 hl hC
  replace hg := hg.symm
  go_enter Try.func5, Try.ntmps5
  go_wp2_with fail
  refine HF.out.mono ?_
  rintro e w2 ⟨bf, rfl, hb, _⟩
  have HA2 := Aside0.mk (HA.out.below hb HA.out.lt)
  have HB2 := Aside0.mk (HB.out.trans (hb.mono HB.out.size))
  clear hb y0 y1 y2 y3 y4 y5 hg hs1 HF HA HB
  cases bf
  case true =>
    go_wp2_with fail
    refine (law_alive.calls _).mono ?_
    rintro e w3 ⟨rfl, hb⟩
    have HB3 := Aside0.mk (HB2.out.trans (hb.mono HB2.out.size))
    clear hb
    go_wp2_with fail
    go_ret
    exact ⟨rfl, HB3.out⟩
  go_wp2_with fail
  obtain ⟨gz, hgz⟩ : ∃ gz, gz = w2.heap.size := ⟨_, rfl⟩
  rw [← hgz]
  have hp := heap_new w2 (.cells #[.int .i64 0, .map none] 49) hgz
  have hba1 := below_alloc (Below.refl _ w2) (.cells #[.int .i64 0, .map none] 49)
  obtain ⟨Wa, hWa⟩ : ∃ Wa, Wa = w2.alloc (.cells #[.int .i64 0, .map none] 49) := ⟨_, rfl⟩
  have hsa : Wa.heap.size = gz + 1 := by rw [hWa, size_alloc, hgz]
  rw [← hWa] at hp hba1 ⊢
  have hq := heap_new Wa (.cells #[.pointer none, .pointer (some ⟨gz, 0, none⟩)] 22) hsa.symm
  have hp' := Blk.At.alloc (show Blk.At gz _ 49 Wa from hp) (.cells #[.pointer none, .pointer (some ⟨gz, 0, none⟩)] 22)
  have hba2 := below_alloc (Below.refl _ Wa) (.cells #[.pointer none, .pointer (some ⟨gz, 0, none⟩)] 22)
  have hba := hba1.trans (hba2.mono hba1.size)
  obtain ⟨Wb, hWb⟩ : ∃ Wb, Wb = Wa.alloc (.cells #[.pointer none, .pointer (some ⟨gz, 0, none⟩)] 22) := ⟨_, rfl⟩
  have hsb : Wb.heap.size = gz + 2 := by rw [hWb, size_alloc, hsa]
  rw [← hWb] at hp' hq hba ⊢
  have HZ := Aside0.mk hp'
  have HQ := Aside0.mk (show Blk.At (gz + 1) #[.pointer none, .pointer (some ⟨gz, 0, none⟩)] 22 Wb from hq)
  have HAb := Aside0.mk (HA2.out.below hba HA2.out.lt)
  have HBb := Aside0.mk (HB2.out.trans (hba.mono HB2.out.size))
  have HSZ := Aside0.mk hsb
  have HB00 := Aside0.mk (Below.refl Wb.heap.size Wb)
  clear hp hq hp' hba hba1 hba2 hWa hWb hsa hsb hgz HA2 HB2
  go_loopw [17] (fun j wq => ∃ n : Nat, n ≤ 2 ∧ j = .int .i64 n ∧ Aside0 (Below Wb.heap.size Wb wq)) (fun j _ => 2 - (intOf j).toNat)
  case atStart => exact ⟨0, by omega, rfl, HB00⟩
  case round =>
    clear HB00
    obtain ⟨n, hn, rfl, HB0⟩ := hrel
    rcases (by omega : n = 2 ∨ n = 0 ∨ n = 1) with rfl | rfl | rfl
    · go_wp2_with fail
      refine (law_alive.calls _).mono ?_
      rintro e v1 ⟨rfl, hb⟩
      have HB1 := Aside0.mk ((HBb.out.trans (HB0.out.mono HBb.out.size)).trans (hb.mono (Nat.le_trans HBb.out.size HB0.out.size)))
      clear hb
      go_wp2_with fail
      go_ret
      exact ⟨rfl, HB1.out⟩
    · have cl : wr.cell? ⟨gz + 1, 0, none⟩ = some (Value.pointer none) := (Blk.At.below HQ.out HB0.out (by rw [HSZ.out]; omega)).cell 0
      have hD := (show DeadAt (.pointer none) g (av a R cr) Wb Wb from ⟨.inl rfl, HAb.out, Below.refl _ _⟩).below HB0.out
      have HD := Aside0.mk hD
      have c2 : wr.cell? ⟨g, 2, none⟩ = some (.slice R a.urls.length cr) := hD.act.cell 2
      have c3 : wr.cell? ⟨g, 3, none⟩ = some (.string a.url) := hD.act.cell 3
      have c4 : wr.cell? ⟨g, 4, none⟩ = some (.int .i64 a.n) := hD.act.cell 4
      clear hD
      go_wp2_with fail
      refine (p_Due.dead HD.out.dead _).mono ?_
      rintro e v0 ⟨rfl, rfl⟩
      go_wp2_with fail
      refine (p_Fails.dead HD.out.dead _).mono ?_
      rintro e v1 ⟨rfl, rfl⟩
      go_wp2_with fail
      refine (p_Sync.dead HD.out.dead _ _ _ _).mono ?_
      rintro e v2 ⟨rfl, rfl⟩
      go_wp2_with fail
      refine (p_Take.dead HD.out.dead _ _).mono ?_
      rintro e v3 ⟨rfl, hb⟩
      have HD3 := Aside0.mk (HD.out.below hb)
      clear hb c2 c3 c4 cl
      go_wp2_with fail
      refine (p_Late.dead HD3.out.dead _).mono ?_
      rintro e v4 ⟨rfl, hb⟩
      have hD4 := HD3.out.below hb
      have HB4 := Aside0.mk hD4.low
      have d3 : v4.cell? ⟨g, 3, none⟩ = some (.string a.url) := hD4.act.cell 3
      have d5 : v4.cell? ⟨g, 5, none⟩ = some (.bool a.good) := hD4.act.cell 5
      have HD4 := Aside0.mk hD4
      clear hb hD4
      go_wp2_with fail
      refine (p_Out.dead HD4.out.dead).mono ?_
      rintro e v5 ⟨rfl, rfl⟩
      go_wp2_with fail
      refine (p_All.dead HD4.out.dead).mono ?_
      rintro e v6 ⟨rfl, rfl⟩
      go_wp2_with fail
      refine (p_Done.dead HD4.out.dead _ _ _).mono ?_
      rintro e v7 ⟨rfl, rfl⟩
      go_wp2_with fail
      refine (p_Now.dead HD4.out.dead).mono ?_
      rintro e v8 ⟨rfl, rfl⟩
      go_wp2_with fail
      go_roundw
      case rel => exact ⟨1, by omega, rfl, HB4⟩
      case measure => simp [intOf]
    · have cl : wr.cell? ⟨gz + 1, 1, none⟩ = some (Value.pointer (some ⟨gz, 0, none⟩)) := (Blk.At.below HQ.out HB0.out (by rw [HSZ.out]; omega)).cell 1
      have hD := (show DeadAt (.pointer (some ⟨gz, 0, none⟩)) g (av a R cr) Wb Wb from ⟨.inr ⟨gz, rfl, HZ.out⟩, HAb.out, Below.refl _ _⟩).below HB0.out
      have HD := Aside0.mk hD
      have c2 : wr.cell? ⟨g, 2, none⟩ = some (.slice R a.urls.length cr) := hD.act.cell 2
      have c3 : wr.cell? ⟨g, 3, none⟩ = some (.string a.url) := hD.act.cell 3
      have c4 : wr.cell? ⟨g, 4, none⟩ = some (.int .i64 a.n) := hD.act.cell 4
      clear hD
      go_wp2_with fail
      refine (p_Due.dead HD.out.dead _).mono ?_
      rintro e v0 ⟨rfl, rfl⟩
      go_wp2_with fail
      refine (p_Fails.dead HD.out.dead _).mono ?_
      rintro e v1 ⟨rfl, rfl⟩
      go_wp2_with fail
      refine (p_Sync.dead HD.out.dead _ _ _ _).mono ?_
      rintro e v2 ⟨rfl, rfl⟩
      go_wp2_with fail
      refine (p_Take.dead HD.out.dead _ _).mono ?_
      rintro e v3 ⟨rfl, hb⟩
      have HD3 := Aside0.mk (HD.out.below hb)
      clear hb c2 c3 c4 cl
      go_wp2_with fail
      refine (p_Late.dead HD3.out.dead _).mono ?_
      rintro e v4 ⟨rfl, hb⟩
      have hD4 := HD3.out.below hb
      have HB4 := Aside0.mk hD4.low
      have d3 : v4.cell? ⟨g, 3, none⟩ = some (.string a.url) := hD4.act.cell 3
      have d5 : v4.cell? ⟨g, 5, none⟩ = some (.bool a.good) := hD4.act.cell 5
      have HD4 := Aside0.mk hD4
      clear hb hD4
      go_wp2_with fail
      refine (p_Out.dead HD4.out.dead).mono ?_
      rintro e v5 ⟨rfl, rfl⟩
      go_wp2_with fail
      refine (p_All.dead HD4.out.dead).mono ?_
      rintro e v6 ⟨rfl, rfl⟩
      go_wp2_with fail
      refine (p_Done.dead HD4.out.dead _ _ _).mono ?_
      rintro e v7 ⟨rfl, rfl⟩
      go_wp2_with fail
      refine (p_Now.dead HD4.out.dead).mono ?_
      rintro e v8 ⟨rfl, rfl⟩
      go_wp2_with fail
      go_roundw
      case rel => exact ⟨2, by omega, rfl, HB4⟩
      case measure => simp [intOf]
end Go.Proofs.Ytomkjakffpomdaa.Q
