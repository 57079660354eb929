/- A journal's laws, walked: what they share. No condition but those typed. -/
import Derived.Test.YtdlfabbhdelinaaWalk0
import Derived.Test.YtdlfabbhdelinaaDisk09
import Derived.Test.YtdlfabbhdelinaaJw3
import Derived.Test.YtdlfabbhdelinaaJr2
import Derived.Outline
namespace Go.Proofs.Ytdlfabbhdelinaa.Q
open Go.RowKit Go.Proofs.YtdlfabbhdelinaaW.PrintWords Go.Proofs.YtdlfabbhdelinaaW.PrintLast Go.Proofs.YtdlfabbhdelinaaW.PrintMore
open Go.Proofs.Ytdlfabbhdelinaa.Dk
attribute [local go_sem] max2_int min2_int max_two min_two max_three min_three max_four min_four   -- for this text's walks alone
set_option linter.unusedVariables false
set_option linter.unusedSimpArgs false
set_option maxRecDepth 100000
theorem two_of {α : Type} : ∀ (l : List α), l.length = 2 → ∃ x y, l = [x, y]
  | [x, y], _ => ⟨x, y, rfl⟩
  | [], h => by simp at h
  | [_], h => by simp at h
  | _ :: _ :: _ :: _, h => by simp at h
/-- One call of a script. -/
structure Ac where
  kind : Int
  recs : List (List Int)
  n : Int
  behind : Bool
  ks : List Int
  cs : List Bool
def dT : Kd (Int × List (List Int) × Int × Bool × List Int × List Bool) := Kd.pair (Kd.int .u8) (Kd.pair (Kd.slice 22 (Kd.slice 5 (Kd.int .u8))) (Kd.pair (Kd.int .i64) (Kd.pair Kd.bool (Kd.pair (Kd.arr 2 (Kd.int .i64) (by decide)) (Kd.arr 2 Kd.bool (by decide))))))
def dA : Kd Ac := Kd.iso dT (fun a => (a.kind, a.recs, a.n, a.behind, a.ks, a.cs))
theorem heap_dA : Kd.Heap dA := Kd.heap_iso _ (Kd.heap_pair (Kd.heap_int _) (Kd.heap_pair (Kd.heap_slice 22 (Kd.heap_slice 5 (Kd.heap_int _))) (Kd.heap_pair (Kd.heap_int _) (Kd.heap_pair Kd.heap_bool (Kd.heap_pair (Kd.heap_arr (Kd.heap_int _)) (Kd.heap_arr Kd.heap_bool))))))
def av (a : Ac) (R : Option Addr) (cr : Nat) (k0 k1 : Int) (c0 c1 : Bool) : Array Value := #[.int .u8 a.kind, .slice R a.recs.length cr, .int .i64 a.n, .bool a.behind, .int .i64 k0, .int .i64 k1, .bool c0, .bool c1]
theorem dA_open {w : World} {a : Ac} {cs : List Value} (h : dA.K w a cs) : ∃ R cr k0 k1 c0 c1, cs = (av a R cr k0 k1 c0 c1).toList ∧ a.recs.length ≤ cr ∧ (Kd.slice 5 (Kd.int .u8)).C w R a.recs.length a.recs ∧ a.ks = [k0, k1] ∧ a.cs = [c0, c1] := by
  obtain ⟨x0, y0, rfl, h0, x1, y1, rfl, h1, x2, y2, rfl, h2, x3, y3, rfl, h3, x4, y4, rfl, h4, h5⟩ := h
  obtain ⟨R, cr, rfl, hl, hC⟩ := h1
  have e0 : x0 = [.int .u8 a.kind] := h0
  have e2 : x2 = [.int .i64 a.n] := h2
  have e3 : x3 = [.bool a.behind] := h3
  obtain ⟨l4, e4⟩ := Kd.arr_cells h4
  obtain ⟨l5, e5⟩ := Kd.arr_cells h5
  obtain ⟨k0, k1, hk⟩ := two_of a.ks l4
  obtain ⟨c0, c1, hc⟩ := two_of a.cs l5
  refine ⟨R, cr, k0, k1, c0, c1, ?_, hl, hC, hk, hc⟩
  simp only [hk, hc] at e4 e5
  subst e0 e2 e3 e4 e5
  rfl
theorem dA_shut {w : World} {a : Ac} {R : Option Addr} {cr : Nat} {k0 k1 : Int} {c0 c1 : Bool} (hl : a.recs.length ≤ cr) (hC : (Kd.slice 5 (Kd.int .u8)).C w R a.recs.length a.recs) (hk : a.ks = [k0, k1]) (hc : a.cs = [c0, c1]) : dA.K w a (av a R cr k0 k1 c0 c1).toList := by
  refine ⟨[.int .u8 a.kind], _, rfl, rfl, [.slice R a.recs.length cr], _, rfl, ⟨R, cr, rfl, hl, hC⟩, [.int .i64 a.n], _, rfl, rfl, [.bool a.behind], _, rfl, rfl, [.int .i64 k0, .int .i64 k1], [.bool c0, .bool c1], rfl, ?_, ?_⟩
  · show (Kd.arr 2 (Kd.int .i64) (by decide)).K w a.ks _
    rw [hk]
    refine ⟨rfl, rfl, fun j p hj => ?_⟩
    rcases j with _ | _ | j
    · obtain rfl : k0 = p := by simpa using hj
      rfl
    · obtain rfl : k1 = p := by simpa using hj
      rfl
    · simp at hj
  · show (Kd.arr 2 Kd.bool (by decide)).K w a.cs _
    rw [hc]
    refine ⟨rfl, rfl, fun j p hj => ?_⟩
    rcases j with _ | _ | j
    · obtain rfl : c0 = p := by simpa using hj
      rfl
    · obtain rfl : c1 = p := by simpa using hj
      rfl
    · simp at hj
def sh (n : Nat) : Nat := if 40 < n then 40 else n
theorem law_short.calls {A : Option Addr} {n c : Nat} (hc : n ≤ c) (w : World) :
    Calls Try.prog 17 #[.slice A n c] w fun e w' => e = .returned (.slice A (sh n) c) ∧ w' = w := by
  by_cases t : 40 < n
  · rw [show sh n = 40 from if_pos t]
    have t2 : 40 ≤ c := by omega
    go_enter Try.func17, Try.ntmps17
    go_wp2_with fail
    all_goals first | omega | skip
    go_ret
    exact ⟨rfl, rfl⟩
  · rw [show sh n = n from if_neg t]
    go_enter Try.func17, Try.ntmps17
    go_wp2_with fail
    all_goals first | omega | skip
    go_ret
    exact ⟨rfl, rfl⟩
theorem add8 (ad : Addr) (i j : Nat) : (ad.add (i * 8)).add j = ad.add (i * 8 + j) := by
  unfold Addr.add
  split <;> split <;> simp_all <;> omega
theorem script_at {w : World} {A : Option Addr} {n : Nat} {l : List Ac} (h : dA.C w A n l) {i : Nat} (hi : i < l.length) : ∃ ad R cr k0 k1 c0 c1, A = some ad ∧ (l[i]'hi).recs.length ≤ cr ∧ (Kd.slice 5 (Kd.int .u8)).C w R (l[i]'hi).recs.length (l[i]'hi).recs ∧ (l[i]'hi).ks = [k0, k1] ∧ (l[i]'hi).cs = [c0, c1] ∧
    ∀ j v, (av (l[i]'hi) R cr k0 k1 c0 c1)[j]? = some v → w.cell? ((ad.add (i * 8)).add j) = some v := by
  obtain ⟨ad, hA, hc⟩ := h.2.2 (by have := h.1; omega)
  obtain ⟨cs, hl, hK, hcell⟩ := hc i _ (List.getElem?_eq_getElem hi)
  obtain ⟨R, cr, k0, k1, c0, c1, rfl, hb, hC, hk, hcs⟩ := dA_open hK
  refine ⟨ad, R, cr, k0, k1, c0, c1, hA, hb, hC, hk, hcs, fun j v hv => ?_⟩
  rw [add8]
  exact hcell j v (by simpa using hv)
theorem w64i {x : Int} (h0 : 0 ≤ x) (h1 : x < 9223372036854775808) : wrap64 x = x := by
  unfold wrap64
  omega
/-- How much a guard counts of records. -/
def mz (r : List Int) : Nat := (if 20000 < r.length then 20000 else r.length) + 8
def mzs (l : List (List Int)) : Nat := (l.map mz).sum
def mza (l : List Ac) : Nat := (l.map fun a => mzs a.recs).sum
theorem mzs_snoc {l : List (List Int)} {n : Nat} (h : n < l.length) : mzs (l.take (n + 1)) = mzs (l.take n) + mz (l.getD n []) := by
  have e : l.getD n [] = l[n] := by rw [List.getD_eq_getElem?_getD, List.getElem?_eq_getElem h]; rfl
  unfold mzs
  rw [List.take_succ_eq_append_getElem h, List.map_append, List.sum_append, e]
  simp
theorem mza_snoc {l : List Ac} {n : Nat} (h : n < l.length) : mza (l.take (n + 1)) = mza (l.take n) + mzs l[n].recs := by
  unfold mza
  rw [List.take_succ_eq_append_getElem h, List.map_append, List.sum_append]
  simp
theorem mzs_le (l : List (List Int)) : mzs l ≤ l.length * 20008 := by
  induction l with
  | nil => simp [mzs]
  | cons r l ih =>
    have h1 : mz r ≤ 20008 := by unfold mz; split <;> omega
    have h2 : mzs (r :: l) = mz r + mzs l := by simp [mzs]
    rw [h2, List.length_cons, Nat.succ_mul]
    omega
theorem mz_big {r : List Int} (h : 20000 < r.length) : mz r = 20008 := by
  unfold mz
  rw [if_pos h]
theorem mz_small {r : List Int} (h : ¬ 20000 < r.length) : mz r = r.length + 8 := by
  unfold mz
  rw [if_neg h]
theorem far_sum {t1 t0 z m : Nat} {x : Int} (h1 : t1 = t0 + z) (h0 : t0 ≤ 16006400) (hz : z ≤ 400160) (hm : (m : Int) = x) (hx : x ≤ 20008) : wrap64 ((t1 : Int) + x) = ((t1 + m : Nat) : Int) := by
  rw [w64i (by omega) (by omega)]
  omega
theorem mzs_take (l : List (List Int)) (n : Nat) : mzs (l.take n) ≤ mzs l := by
  conv => rhs; rw [← List.take_append_drop n l]
  unfold mzs
  rw [List.map_append, List.sum_append]
  omega
theorem far_b {n t m : Nat} (h : t ≤ n * 400160) (hn : n ≤ m) (hm : m ≤ 40) : t ≤ 16006400 := by omega
theorem far_u {l : List (List Int)} {i : Nat} (h : l.length ≤ 20) : mzs (l.take i) ≤ 400160 := by
  have hub := mzs_le (l.take i)
  rw [List.length_take] at hub
  omega
theorem far_t {t n : Nat} {l : List (List Int)} (h : t ≤ n * 400160) (h2 : l.length ≤ 20) : t + mzs l ≤ (n + 1) * 400160 := by
  have h1 := mzs_le l
  omega
theorem far_one {t1 t0 z : Nat} {r : List Int} (h1 : t1 = t0 + z) (h0 : t0 ≤ 16006400) (hz : z ≤ 400160) : wrap64 (mn (r.length : Int) 20000 + 8) = mn (r.length : Int) 20000 + 8 ∧ wrap64 ((t1 : Int) + (mn (r.length : Int) 20000 + 8)) = ((t1 + mz r : Nat) : Int) := by
  have e : mn (r.length : Int) 20000 + 8 = ((mz r : Nat) : Int) := by
    unfold mn mz
    by_cases h : 20000 < r.length
    · rw [if_pos h]; split <;> omega
    · rw [if_neg h]; split <;> omega
  have hm : mz r ≤ 20008 := by
    unfold mz
    split <;> omega
  rw [e]
  exact ⟨w64i (by omega) (by omega), far_sum h1 h0 hz rfl (by omega)⟩
/-- What is let in. -/
def Small (l : List Ac) : Prop := (∀ a ∈ l, a.recs.length ≤ 20) ∧ mza l ≤ 20000
section
attribute [-go_sem] max2_int min2_int
attribute [local go_sem] max_mx min_mn
set_option maxHeartbeats 4000000 in
theorem law_far.calls {w : World} {A : Option Addr} {c : Nat} {l : List Ac} (hC : dA.C w A l.length l) (hc : l.length ≤ c) :
    Calls Try.prog 15 #[.slice A l.length c] w fun e w' => ∃ b, e = .returned (.bool b) ∧ Below w.heap.size w w' ∧ (b = false → Small (l.take (sh l.length))) := by
  have HC := Aside0.mk hC
  have HS := Aside0.mk (law_short.calls (A := A) hc)
  obtain ⟨m, hm⟩ : ∃ m, m = sh l.length := ⟨_, rfl⟩
  have HM := Aside0.mk (show m ≤ l.length ∧ m ≤ 40 from by rw [hm]; unfold sh; split <;> omega)
  rw [← hm] at HS ⊢
  clear hC hc hm
  go_enter Try.func15, Try.ntmps15
  go_wp2_with fail
  refine (HS.out _).mono ?_
  rintro e w1 ⟨rfl, rfl⟩
  have HB0 := Aside0.mk (Below.refl w1.heap.size w1)
  go_wp2_with fail
  go_loopw [3, 11] (fun s j wr => ∃ (n t : Nat), n ≤ m ∧ s = .int .i64 t ∧ j = .int .i64 n ∧ Aside0 (Below w1.heap.size w1 wr) ∧ Aside0 ((∀ a ∈ l.take n, a.recs.length ≤ 20) ∧ t = mza (l.take n) ∧ t ≤ n * 400160)) (fun _ j _ => m - (intOf j).toNat)
  case atStart => exact ⟨0, 0, Nat.zero_le _, rfl, rfl, HB0, ⟨fun a ha => by simp at ha, by simp [mza], Nat.zero_le _⟩⟩
  case round =>
    clear HB0
    obtain ⟨n, t0, hn, rfl, rfl, HB, HQ⟩ := hrel
    by_cases hlt : n < m
    · have hl : n < l.length := by have := HM.out; omega
      obtain ⟨ad, R, cr, k0, k1, c0, c1, rfl, hb, hbC, hk, hcs, hx⟩ := script_at HC.out hl
      have HSN := Aside0.mk (mza_snoc hl)
      have HTK := Aside0.mk (List.take_succ_eq_append_getElem hl)
      generalize l[n] = a at hb hbC hk hcs hx HSN HTK
      obtain ⟨X, hX⟩ : ∃ X, X = ad.add (n * 8) := ⟨_, rfl⟩
      have hXe : ad.add (n * 8) = X := hX.symm
      rw [hXe] at hx
      clear hX
      have hx0 : wr.cell? X = some (.int .u8 a.kind) := pw_cell_below HB.out (hx 0 _ rfl)
      have hx1 : wr.cell? ⟨X.block, X.off + 1, none⟩ = some (.slice R a.recs.length cr) := pw_cell_below HB.out (hx 1 _ rfl)
      have hx2 : wr.cell? ⟨X.block, X.off + 2, none⟩ = some (.int .i64 a.n) := pw_cell_below HB.out (hx 2 _ rfl)
      have hx3 : wr.cell? ⟨X.block, X.off + 3, none⟩ = some (.bool a.behind) := pw_cell_below HB.out (hx 3 _ rfl)
      have hx4 : wr.cell? ⟨X.block, X.off + 4, none⟩ = some (.int .i64 k0) := pw_cell_below HB.out (hx 4 _ rfl)
      have hx5 : wr.cell? ⟨X.block, X.off + 5, none⟩ = some (.int .i64 k1) := pw_cell_below HB.out (hx 5 _ rfl)
      have hx6 : wr.cell? ⟨X.block, X.off + 6, none⟩ = some (.bool c0) := pw_cell_below HB.out (hx 6 _ rfl)
      have hx7 : wr.cell? ⟨X.block, X.off + 7, none⟩ = some (.bool c1) := pw_cell_below HB.out (hx 7 _ rfl)
      have HCR := Aside0.mk hbC
      have en : wrap64 ((n : Int) + 1) = ((n + 1 : Nat) : Int) := w64n (by have := HM.out; omega)
      clear hx hb hbC hk hcs
      by_cases h20 : 20 < a.recs.length
      · have hb20 : decide ((a.recs.length : Int) > 20) = true := decide_eq_true (by omega)
        have hb20' : (20 : Int) < (a.recs.length : Int) := by omega
        go_wp2_with fail
        go_ret
        exact ⟨true, rfl, HB.out.alloc HB.out.size _, fun h => by cases h⟩
      have hb20 : decide ((a.recs.length : Int) > 20) = false := decide_eq_false (by omega)
      have H20 := Aside0.mk (show a.recs.length ≤ 20 by omega)
      have HT0 := Aside0.mk HQ.out.2.1
      have HBa := Aside0.mk (HB.out.alloc HB.out.size (.cells #[.int .u8 a.kind, .slice R a.recs.length cr, .int .i64 a.n, .bool a.behind, .int .i64 k0, .int .i64 k1, .bool c0, .bool c1] 46))
      clear h20
      go_wp2_with fail
      go_loopw [3, 22] (fun s j wq => ∃ (i t : Nat), i ≤ a.recs.length ∧ s = .int .i64 t ∧ j = .int .i64 i ∧ Aside0 (Below w1.heap.size w1 wq) ∧ Aside0 (t = t0 + mzs (a.recs.take i))) (fun _ j _ => a.recs.length - (intOf j).toNat)
      case atStart => exact ⟨0, t0, Nat.zero_le _, rfl, rfl, HBa, ⟨by simp [mzs]⟩⟩
      case round =>
        obtain ⟨i, t1, hi, rfl, rfl, HBq, HT1⟩ := hrel
        by_cases hil : i < a.recs.length
        · obtain ⟨adr, B, cb, e0, hxr, hcb, hCb⟩ := rows_at (Kd.C_below HCR.out HBq.out) hil
          subst e0
          have hsn := mzs_snoc hil
          obtain ⟨r, hr⟩ : ∃ r, r = a.recs.getD i [] := ⟨_, rfl⟩
          rw [← hr] at hxr hsn
          have HSI := Aside0.mk hsn
          have hwi : wrap64 ((i : Int) + 1) = ((i + 1 : Nat) : Int) := w64n (by have := H20.out; omega)
          have HT0B := Aside0.mk (far_b HQ.out.2.2 hn HM.out.2)
          have HUB := Aside0.mk (far_u (i := i) H20.out)
          clear hcb hCb hr hsn
          obtain ⟨hw3, hw2⟩ := far_one (r := r) HT1.out HT0B.out HUB.out
          go_wp2_with fail
          rw [hw2, hwi]
          go_roundw
          case rel => exact ⟨i + 1, _, by omega, rfl, rfl, HBq, ⟨by rw [HSI.out, HT1.out]; omega⟩⟩
          case measure => simp [intOf]; omega
        · obtain rfl : i = a.recs.length := by omega
          go_wp2_with fail
          rw [en]
          go_roundw
          case rel =>
            refine ⟨n + 1, t1, by omega, rfl, rfl, HBq, ⟨fun x hx => ?_, ?_, ?_⟩⟩
            · rw [HTK.out] at hx
              rcases List.mem_append.1 hx with hx | hx
              · exact HQ.out.1 x hx
              · rw [List.mem_singleton.1 hx]
                exact H20.out
            · rw [HSN.out, HT1.out, HT0.out, List.take_length]
            · rw [HT1.out, List.take_length]
              exact far_t HQ.out.2.2 H20.out
          case measure => simp [intOf]; omega
    · obtain rfl : n = m := by omega
      go_wp2_with fail
      go_ret
      refine ⟨_, rfl, HB.out, fun h => ⟨HQ.out.1, ?_⟩⟩
      have h1 := of_decide_eq_false h
      have h2 := HQ.out.2.1
      omega
end
/-- What a call answers, and leaves. -/
noncomputable def dzE (a : Ac) (d : D) (j : J) : Int := if Int.tmod a.kind 7 = 1 then comE d j else if Int.tmod a.kind 7 = 2 then 100 + j.many else if Int.tmod a.kind 7 = 3 then (snap a.recs d j).1 else if Int.tmod a.kind 7 = 4 then 0 else if Int.tmod a.kind 7 = 5 then 0 else frsE a.recs (j.group.length : Int) d
noncomputable def dzD (a : Ac) (d : D) (j : J) : D := if Int.tmod a.kind 7 = 1 then comD d j else if Int.tmod a.kind 7 = 2 then d else if Int.tmod a.kind 7 = 3 then (snap a.recs d j).2.1 else if Int.tmod a.kind 7 = 4 then d else if Int.tmod a.kind 7 = 5 then d else d
noncomputable def dzJ (a : Ac) (d : D) (j : J) : J := if Int.tmod a.kind 7 = 1 then comJ d j else if Int.tmod a.kind 7 = 2 then ⟨j.live, [], 0⟩ else if Int.tmod a.kind 7 = 3 then (snap a.recs d j).2.2 else if Int.tmod a.kind 7 = 4 then j else if Int.tmod a.kind 7 = 5 then j else addJ a.recs d j
theorem good_dz {a : Ac} {d : D} {j : J} (h : Good d) : Good (dzD a d j) := by
  unfold dzD
  split
  · exact good_comD h
  split
  · exact h
  split
  · exact good_snap h
  split
  · exact h
  split <;> exact h
set_option maxHeartbeats 4000000 in
theorem law_does.calls {S : Nat → Prop} {g jb : Nat} {d : D} {j : J} {W : World} (h : Jn S g jb d j W) (hg : Good d) (hj : Jk j) (a : Ac) (B : Option Addr) (cr : Nat) (x0 x1 : Int) (y0 y1 : Bool) (hC : (Kd.slice 5 (Kd.int .u8)).C W B a.recs.length a.recs) (hl : a.recs.length ≤ 20) :
    Calls Try.prog 28 #[.pointer (some ⟨jb, 0, none⟩), .agg (av a B cr x0 x1 y0 y1)] W fun e w' => e = .returned (.int .i64 (dzE a d j)) ∧ ∃ S', Jn S' g jb (dzD a d j) (dzJ a d j) w' ∧ Mv S S' W w' := by
  have hbn := below_alloc (Below.refl _ W) (.cells (av a B cr x0 x1 y0 y1) 46)
  have HJ := Aside0.mk (h.below hbn)
  have HC := Aside0.mk (Kd.C_below hC hbn)
  have HQ := Aside0.mk (Blk.At.new W (av a B cr x0 x1 y0 y1) 46)
  have HM := Aside0.mk (Mv.of_below S hbn)
  have HG := Aside0.mk hg
  have HK := Aside0.mk hj
  have HL := Aside0.mk (show a.recs.length ≤ 1000 by omega)
  have q0 : (W.alloc (.cells (av a B cr x0 x1 y0 y1) 46)).cell? ⟨W.heap.size, 0, none⟩ = some (.int .u8 a.kind) := HQ.out.cell 0
  have q1 : (W.alloc (.cells (av a B cr x0 x1 y0 y1) 46)).cell? ⟨W.heap.size, 1, none⟩ = some (.slice B a.recs.length cr) := HQ.out.cell 1
  obtain ⟨W1, hW⟩ : ∃ W1, W1 = W.alloc (.cells (av a B cr x0 x1 y0 y1) 46) := ⟨_, rfl⟩
  have hWc : W.alloc (.cells (av a B cr x0 x1 y0 y1) 46) = W1 := hW.symm
  rw [hWc] at HJ HC HM q0 q1
  obtain ⟨z, hz⟩ : ∃ z, z = Int.tmod a.kind 7 := ⟨_, rfl⟩
  have hzc : Int.tmod a.kind 7 = z := hz.symm
  unfold dzE dzD dzJ
  rw [hzc]
  clear hW hz h hg hj hC hl HQ hbn
  have hav : (av a B cr x0 x1 y0 y1) = #[.int .u8 a.kind, .slice B a.recs.length cr, .int .i64 a.n, .bool a.behind, .int .i64 x0, .int .i64 x1, .bool y0, .bool y1] := rfl
  rw [hav] at hWc ⊢
  clear hav
  by_cases t1 : z = 1
  case pos =>
    rw [if_pos t1, if_pos t1, if_pos t1]
    have tb : (z == 1) = true := by simpa using t1
    clear t1
    go_enter Try.func28, Try.ntmps28
    go_wp2_with fail
    refine (jCommit.calls HJ.out HG.out).mono ?_
    rintro e w1 ⟨rfl, S1, hJ, hM⟩
    have HJ1 := Aside0.mk hJ
    have HM1 := Aside0.mk (HM.out.trans hM)
    clear hJ hM
    go_wp2_with fail
    go_ret
    exact ⟨rfl, S1, HJ1.out, HM1.out⟩
  have t1b : (z == 1) = false := by simpa using t1
  rw [if_neg t1, if_neg t1, if_neg t1]
  clear t1
  by_cases t2 : z = 2
  case pos =>
    rw [if_pos t2, if_pos t2, if_pos t2]
    have tb : (z == 2) = true := by simpa using t2
    clear t2
    go_enter Try.func28, Try.ntmps28
    go_wp2_with fail
    refine (jDrop.calls HJ.out).mono ?_
    rintro e w1 ⟨rfl, hJ, hM⟩
    have HJ1 := Aside0.mk hJ
    have HM1 := Aside0.mk (HM.out.trans hM)
    have hw : wrap64 (100 + j.many) = 100 + j.many := by have := HK.out.many; unfold wrap64; omega
    clear hJ hM
    go_wp2_with fail
    rw [hw]
    go_ret
    exact ⟨rfl, _, HJ1.out, HM1.out⟩
  have t2b : (z == 2) = false := by simpa using t2
  rw [if_neg t2, if_neg t2, if_neg t2]
  clear t2
  by_cases t3 : z = 3
  case pos =>
    rw [if_pos t3, if_pos t3, if_pos t3]
    have tb : (z == 3) = true := by simpa using t3
    clear t3
    go_enter Try.func28, Try.ntmps28
    go_wp2_with fail
    refine (jSnapshot.calls HJ.out HG.out HC.out HL.out).mono ?_
    rintro e w1 ⟨rfl, S1, hJ, hM⟩
    have HJ1 := Aside0.mk hJ
    have HM1 := Aside0.mk (HM.out.trans hM)
    clear hJ hM
    go_wp2_with fail
    go_ret
    exact ⟨rfl, S1, HJ1.out, HM1.out⟩
  have t3b : (z == 3) = false := by simpa using t3
  rw [if_neg t3, if_neg t3, if_neg t3]
  clear t3
  by_cases t4 : z = 4
  case pos =>
    rw [if_pos t4, if_pos t4, if_pos t4]
    have tb : (z == 4) = true := by simpa using t4
    clear t4
    go_enter Try.func28, Try.ntmps28
    go_wp2_with fail
    go_ret
    exact ⟨rfl, S, HJ.out, HM.out⟩
  have t4b : (z == 4) = false := by simpa using t4
  rw [if_neg t4, if_neg t4, if_neg t4]
  clear t4
  by_cases t5 : z = 5
  case pos =>
    rw [if_pos t5, if_pos t5, if_pos t5]
    have tb : (z == 5) = true := by simpa using t5
    clear t5
    go_enter Try.func28, Try.ntmps28
    go_wp2_with fail
    go_ret
    exact ⟨rfl, S, HJ.out, HM.out⟩
  have t5b : (z == 5) = false := by simpa using t5
  rw [if_neg t5, if_neg t5, if_neg t5]
  clear t5
  go_enter Try.func28, Try.ntmps28
  go_wp2_with fail
  refine (jAdd.calls HJ.out HG.out HK.out HC.out HL.out).mono ?_
  rintro e w1 ⟨rfl, S1, hJ, hM⟩
  have HJ1 := Aside0.mk hJ
  have HM1 := Aside0.mk (HM.out.trans hM)
  clear hJ hM
  go_wp2_with fail
  go_ret
  exact ⟨rfl, S1, HJ1.out, HM1.out⟩
/-- A calm disk: the power is on, and there is no fuse. -/
structure Calm (d : D) : Prop where
  on : d.off = false
  no : d.fuse = -1
theorem apE_calm {d : D} (h : Calm d) (i : Bool) (b : List Int) : apE (iv i) b d = room1 d b.length := by
  unfold apE gateE actE
  rw [fe_calm h.on i, if_neg (by decide)]
  split
  · rfl
  · rename_i hh
    rw [if_neg (by have := h.no; omega)]
    omega
theorem apD_calm {d : D} (h : Calm d) (i : Bool) {b : List Int} (hr : room1 d b.length = 0) : apD (iv i) b d = app i b d := by
  unfold apD gateD
  rw [fe_calm h.on i, bi_iv, hr, if_neg (by decide), actD_calm h.no, if_neg (by decide)]
theorem apD_full {d : D} (h : Calm d) (i : Bool) {b : List Int} (hr : room1 d b.length ≠ 0) : apD (iv i) b d = d := by
  unfold apD gateD
  rw [fe_calm h.on i, if_neg (by decide)]
  exact if_pos hr
theorem sy_calm {d : D} (h : Calm d) (i : Bool) : syE (iv i) d = 0 ∧ syD (iv i) d = syn i d := by
  constructor
  · unfold syE gateE actE
    rw [fe_calm h.on i, if_neg (by decide), if_neg (by decide), if_neg (by have := h.no; omega)]
  · unfold syD gateD
    rw [fe_calm h.on i, bi_iv, if_neg (by decide), actD_calm h.no, if_neg (by decide)]
theorem sw_calm {d : D} (h : Calm d) (i : Bool) : swE (iv i) d = 0 ∧ swD (iv i) d = swi (iv i) d := by
  constructor
  · unfold swE gateE actE
    rw [fe_calm h.on i, if_neg (by decide), if_neg (by decide), if_neg (by have := h.no; omega)]
  · unfold swD gateD
    rw [fe_calm h.on i, if_neg (by decide), actD_calm h.no, if_neg (by decide)]
theorem tr_calm {d : D} (h : Calm d) (i : Bool) {n : Int} (h0 : 0 ≤ n) (h1 : n ≤ (d.fl i).now.length) : trE (iv i) n d = 0 ∧ trD (iv i) n d = tru i n d := by
  have ht : troom n (d.fl i) = 0 := if_neg (by omega)
  constructor
  · unfold trE gateE actE
    rw [fe_calm h.on i, bi_iv, ht, if_neg (by decide), if_neg (by decide), if_neg (by have := h.no; omega)]
  · unfold trD gateD
    rw [fe_calm h.on i, bi_iv, ht, if_neg (by decide), actD_calm h.no, if_neg (by decide)]
theorem calm_app {d : D} (h : Calm d) (i : Bool) (b : List Int) : Calm (app i b d) := ⟨(off_put _ _ _).trans h.on, (fuse_put _ _ _).trans h.no⟩
theorem calm_syn {d : D} (h : Calm d) (i : Bool) : Calm (syn i d) := ⟨(off_put _ _ _).trans h.on, (fuse_put _ _ _).trans h.no⟩
theorem calm_tru {d : D} (h : Calm d) (i : Bool) (n : Int) : Calm (tru i n d) := ⟨(off_put _ _ _).trans h.on, (fuse_put _ _ _).trans h.no⟩
theorem calm_swi {d : D} (h : Calm d) (n : Int) : Calm (swi n d) := ⟨h.on, h.no⟩
theorem calm_open {d : D} (h : Calm d) (i : Bool) : Calm (openD i d) := by
  have h1 := tc_off i ((Jr.sz (Jr.scanF (d.fl i).now) : Nat) : Int) d
  have h2 := tc_off (!i) 0 (tcD i ((Jr.sz (Jr.scanF (d.fl i).now) : Nat) : Int) d)
  exact ⟨h2.1.trans (h1.1.trans h.on), h2.2.1.trans (h1.2.1.trans h.no)⟩
/-- The disk's part of a journal alone. -/
theorem Jo.part {ok : Nat → Prop} {gv : Value} {S : Nat → Prop} {g jb : Nat} {d : D} {j : J} {W : World} (h : Jo ok gv S g jb d j W) : Dn (fun k => (ok k ∧ k < W.heap.size) ∨ k = g) g d W :=
  ⟨⟨ok, h.at_, fun k hk hl => .inl ⟨hk, hl⟩⟩, .inr rfl, fun k hk => hk.elim (fun x => x.2) (fun e => e ▸ h.at_.lt)⟩
/-- A journal survives another's opening. -/
theorem Jo.back {ok : Nat → Prop} {gv : Value} {S S2 : Nat → Prop} {g jb jb2 : Nat} {d d' : D} {j j2 : J} {W w' : World} (h : Jo ok gv S g jb d j W) (h2 : Jn S2 g jb2 d' j2 w') (M : Mv (fun k => (ok k ∧ k < W.heap.size) ∨ k = g) S2 W w') : Jn (fun k => S k ∨ S2 k) g jb d' j w' ∧ Mv S (fun k => S k ∨ S2 k) W w' := by
  obtain ⟨ok2, gv2, h2⟩ := h2
  have hjl := h.blk.lt
  have hnj : ¬ ((ok jb ∧ jb < W.heap.size) ∨ jb = g) := fun hh => hh.elim (fun x => h.nj x.1) h.ne
  have hn2 : ∀ k, k < W.heap.size → ¬ ((ok k ∧ k < W.heap.size) ∨ k = g) → ¬ ok2 k := fun k hk hn hh =>
    (M.grow k (h2.ok_ k hh (Nat.lt_of_lt_of_le hk M.size))).elim hn (fun x => by omega)
  refine ⟨⟨ok2, gv, h2.at_, fun k hk hl => .inr (h2.ok_ k hk hl), ?_, ?_, ?_, hn2 jb hjl hnj, .inl h.sg, .inl h.sj, h.ne, ?_⟩, ⟨M.os, M.tape, M.output, M.size, ?_, ?_⟩⟩
  · exact (M.keep jb hjl hnj).trans h.blk
  · have hR := Kd.R_of_own (base := 0) (enc := Value.int .u8) (h1 := fun _ => rfl) h.grp (ok := fun k => k < W.heap.size ∧ ¬ ((ok k ∧ k < W.heap.size) ∨ k = g)) (fun k hk => ⟨h.lim k (h.far k hk).1, fun hh => hh.elim (fun x => (h.far k hk).2.1 x.1) (h.far k hk).2.2.1⟩)
    have hR2 := Kd.R_step hR (w1 := w') (fun k hk hl => M.keep k hl hk.2)
    exact Kd.own_of_R hR2
  · intro k hk
    have hf := h.far k hk
    have hl := h.lim k hf.1
    exact ⟨.inl hf.1, hn2 k hl (fun hh => hh.elim (fun x => hf.2.1 x.1) hf.2.2.1), hf.2.2⟩
  · exact fun k hk => hk.elim (fun x => Nat.lt_of_lt_of_le (h.lim k x) M.size) (h2.lim k)
  · exact fun k hk hs => M.keep k hk (fun hh => hh.elim (fun x => hs (h.ok_ k x.1 x.2)) (fun e => hs (e ▸ h.sg)))
  · exact fun k hk => hk.elim .inl (fun x => (M.grow k x).elim (fun y => y.elim (fun z => .inl (h.ok_ k z.1 z.2)) (fun e => .inl (e ▸ h.sg))) .inr)
theorem jOpen.again {S : Nat → Prop} {g jb : Nat} {d : D} {j : J} {W : World} (h : Jn S g jb d j W) (hg : Good d) (hc : Calm d) (i : Bool) (hr : d.root = iv i) :
    Calls Try.prog 16 #[.pointer (some ⟨g, 0, none⟩)] W fun e w' => ∃ jb2 A c S', e = .returned (.tuple #[.pointer (some ⟨jb2, 0, none⟩), .slice A (Jr.scanF (d.fl i).now).length c, .int .i64 0]) ∧ Jn S' g jb (openD i d) j w' ∧ Mv S S' W w' ∧ Rs W.heap.size (fun k => ¬ S' k) w' (.slice A (Jr.scanF (d.fl i).now).length c) (Jr.scanF (d.fl i).now) := by
  obtain ⟨ok, gv, h⟩ := h
  refine (jOpen.calls h.part hg hc.on hc.no i hr).mono ?_
  rintro e w' ⟨jb2, A, c, S2, rfl, h2, M, hR⟩
  have hb := h.back h2 M
  refine ⟨jb2, A, c, _, rfl, hb.1, hb.2, ?_⟩
  exact Kd.R_mono (Kd.R_bound hR) (fun k hk hs => hs.elim (fun x => by have := hk.2.1; have := h.lim k x; omega) hk.1)
theorem calm_new (room : Int) : Calm (newD room) := ⟨rfl, rfl⟩
theorem ab_ok : allOk [[97, 98]] := by
  intro r hr
  rw [List.mem_singleton.1 hr]
  decide
def al0 : D := newD 200
def al2 : D := syn false (app false (flat [[97, 98]]) al0)
theorem flat_ab : (flat [[97, 98]]).length = 10 := by
  rw [Jr.flat_sz]
  decide
theorem al_open : openD false al0 = al0 ∧ Jr.scanF (al0.fl false).now = [] := by
  have h : Jr.scanF ([] : List Int) = [] := Jr.scan_flat0 (l := []) (fun _ h => by cases h)
  have e : (al0.fl false).now = [] := rfl
  refine ⟨?_, by rw [e]; exact h⟩
  unfold openD
  rw [e, h]
  rfl
theorem al_left : leftN al0 = 200 := rfl
theorem al_add : frsE [[97, 98]] 0 al0 = 0 ∧ addJ [[97, 98]] al0 ⟨false, [], 0⟩ = ⟨false, flat [[97, 98]], 1⟩ := by
  have e : frsE [[97, 98]] 0 al0 = 0 := by
    unfold frsE
    rw [if_pos ab_ok, flat_ab, al_left]
    rfl
  refine ⟨e, ?_⟩
  unfold addJ
  exact if_pos e
theorem al_com : comE al0 ⟨false, flat [[97, 98]], 1⟩ = 0 ∧ comD al0 ⟨false, flat [[97, 98]], 1⟩ = al2 ∧ comJ al0 ⟨false, flat [[97, 98]], 1⟩ = ⟨false, [], 0⟩ := by
  have hr : room1 al0 (flat [[97, 98]]).length = 0 := by rw [flat_ab]; rfl
  have ha := apE_calm (calm_new 200) false (flat [[97, 98]])
  have hb := apD_calm (calm_new 200) false hr
  have hs := sy_calm (calm_app (calm_new 200) false (flat [[97, 98]])) false
  unfold comE comD comJ
  rw [show newD 200 = al0 from rfl] at *
  dsimp only
  rw [if_neg (by decide), if_neg (by decide), if_neg (by decide), ha, hr, hb, if_neg (by decide), if_neg (by decide), if_neg (by decide), hs.1, hs.2, if_neg (by decide)]
  exact ⟨rfl, rfl, rfl⟩
theorem al2_a : (al2.fl false).now = flat [[97, 98]] ∧ (al2.fl true).now = [] := ⟨rfl, rfl⟩
theorem al2_calm : Calm al2 := calm_syn (calm_app (calm_new 200) false _) false
theorem al_scan : Jr.scanF (al2.fl false).now = [[97, 98]] := Jr.scan_flat0 ab_ok
theorem al_open2 : openD false al2 = al2 := by
  have e : ∀ n : Nat, n = 10 → tcD false (n : Int) al2 = al2 := fun n hn => if_pos (by rw [al2_a.1, flat_ab, hn])
  unfold openD
  rw [al_scan, e _ (by decide)]
  exact if_pos (by rw [show (!false) = true from rfl, al2_a.2]; rfl)
theorem al_left2 : leftN al2 = 190 := by
  show (200 : Int) - ((flat [[97, 98]]).length : Int) - 0 = 190
  rw [flat_ab]
  rfl
theorem al_size : ((rdL al2 false).length : Int) = 10 := by
  show ((flat [[97, 98]]).length : Int) = 10
  rw [flat_ab]
  rfl
theorem good_al0 : Good al0 := good_new (by decide) (by decide)
theorem good_al2 : Good al2 := by rw [← al_com.2.1]; exact good_comD good_al0
theorem add0 (ad : Addr) : ad.add 0 = ad := by
  unfold Addr.add
  cases ad
  split <;> simp_all
theorem C_one {W : World} {g : Nat} {A0 : Option Addr} {c0 : Nat} {x0 : List Int} (h : Blk.At g #[.slice A0 x0.length c0] 22 W) (hc0 : x0.length ≤ c0) (h0 : (Kd.int .u8).C W A0 x0.length x0) : (Kd.slice 5 (Kd.int .u8)).C W (some ⟨g, 0, none⟩) ([x0] : List (List Int)).length [x0] := by
  refine Kd.C_slices_block (t := 5) h (fun j p hj => ?_) (by simp)
  rcases j with _ | j
  · obtain rfl : x0 = p := by simpa using hj
    exact ⟨A0, c0, rfl, hc0, h0⟩
  · simp at hj
theorem ab_here (w : World) : (Kd.slice 5 (Kd.int .u8)).C ((w.alloc (.cells #[.int .u8 97, .int .u8 98] 5 (2, 3))).alloc (.cells #[.slice (some ⟨w.heap.size, 0, none⟩) 2 2] 22)) (some ⟨w.heap.size + 1, 0, none⟩) ([[97, 98]] : List (List Int)).length [[97, 98]] := by
  have h1 := heap_new w (.cells #[.int .u8 97, .int .u8 98] 5 (2, 3)) rfl
  have h2 := heap_new (w.alloc (.cells #[.int .u8 97, .int .u8 98] 5 (2, 3))) (.cells #[.slice (some ⟨w.heap.size, 0, none⟩) 2 2] 22) (by simp [size_alloc] : w.heap.size + 1 = _)
  have hb := below_alloc (Below.refl (w.alloc (.cells #[.int .u8 97, .int .u8 98] 5 (2, 3))).heap.size (w.alloc (.cells #[.int .u8 97, .int .u8 98] 5 (2, 3)))) (.cells #[.slice (some ⟨w.heap.size, 0, none⟩) 2 2] 22)
  refine C_one (x0 := [97, 98]) h2 (Nat.le_refl 2) (Kd.C_below ?_ hb)
  exact Kd.C_ints_block (k := .u8) (xs := [97, 98]) h1 rfl (by decide)
set_option maxHeartbeats 8000000 in
theorem law_alive.calls (w : World) : Calls Try.prog 8 #[] w fun e w' => e = .returned (.bool true) ∧ Below w.heap.size w w' := by
  go_enter Try.func8, Try.ntmps8
  go_wp2_with fail
  refine (disk_New.calls (by decide) (by decide) (fun k => w.heap.size < k) (by omega) (fun _ hk => hk)).mono ?_
  rintro e w1 ⟨rfl, hA, hB⟩
  obtain ⟨hD, hM⟩ := Dn.new (B := 0) hA hB
  obtain ⟨g, hg⟩ : ∃ g, g = w.heap.size := ⟨_, rfl⟩
  rw [← hg] at hD hM ⊢
  have HB1 := Aside0.mk hB
  have HOP := Aside0.mk (jOpen.calls (d := al0) hD good_al0 rfl rfl false rfl)
  rw [al_open.1, al_open.2] at HOP
  have HSG := Aside0.mk hg
  clear hA hB hD hM hg
  go_wp2_with fail
  refine HOP.out.mono ?_
  rintro e w2 ⟨jb, A2, c2, S2, rfl, hJ, hM, hR⟩
  have HJ2 := Aside0.mk hJ
  have HM2 := Aside0.mk hM
  clear hJ hM hR HOP
  have hcv := Lib.run_convert_bytes_const (P := Try.prog) w2 22 5 #[.int .u8 97, .int .u8 98] 2 2 Try.underlying22 Try.underlying5
  go_wp2_with fail
  clear hcv
  obtain ⟨W2, hW2⟩ : ∃ W2, W2 = (w2.alloc (.cells #[.int .u8 97, .int .u8 98] 5 (2, 3))).alloc (.cells #[.slice (some ⟨w2.heap.size, 0, none⟩) 2 2] 22) := ⟨_, rfl⟩
  have hC := ab_here w2
  have hBW := below_alloc (below_alloc (Below.refl w2.heap.size w2) (.cells #[.int .u8 97, .int .u8 98] 5 (2, 3))) (.cells #[.slice (some ⟨w2.heap.size, 0, none⟩) 2 2] 22)
  rw [← hW2] at hC hBW ⊢
  clear hW2
  have HJ2b := Aside0.mk (HJ2.out.below hBW)
  have hAD := jAdd.calls (d := al0) HJ2b.out good_al0 ⟨⟨by decide, by decide⟩, by decide⟩ (c := 1) hC (by decide)
  rw [show frsE [[97, 98]] ((J.mk false [] 0).group.length : Int) al0 = 0 from al_add.1, al_add.2] at hAD
  have HM2b := Aside0.mk (HM2.out.then_below hBW)
  have HAD := Aside0.mk hAD
  clear hAD hC hBW HJ2 HM2
  refine HAD.out.mono ?_
  rintro e w3 ⟨rfl, S3, hJ, hM⟩
  have HJ3 := Aside0.mk hJ
  have HM3 := Aside0.mk (HM2b.out.trans hM)
  have hGR := jGroup.calls hJ
  rw [show (((J.mk false (flat [[97, 98]]) 1).group.length : Nat) : Int) = 10 from by show ((flat [[97, 98]]).length : Int) = 10; rw [flat_ab]; rfl] at hGR
  have HGR := Aside0.mk hGR
  have hCM := jCommit.calls (d := al0) hJ good_al0
  rw [al_com.1, al_com.2.1, al_com.2.2] at hCM
  have HCM := Aside0.mk hCM
  clear hJ hM hGR hCM HAD HJ2b HM2b
  go_wp2_with fail
  refine HGR.out.mono ?_
  rintro e w4 ⟨rfl, rfl⟩
  go_wp2_with fail
  refine HCM.out.mono ?_
  rintro e w5 ⟨rfl, S5, hJ, hM⟩
  have HJ5 := Aside0.mk hJ
  have HM5 := Aside0.mk (HM3.out.trans hM)
  have hSZ := jSize.calls hJ good_al2
  rw [al_size] at hSZ
  have HSZ := Aside0.mk hSZ
  clear hJ hM hSZ HCM HGR HJ3 HM3
  go_wp2_with fail
  refine HSZ.out.mono ?_
  rintro e w6 ⟨rfl, hb⟩
  have HJ6 := Aside0.mk (HJ5.out.below hb)
  have HM6 := Aside0.mk (HM5.out.then_below hb)
  have hOP := jOpen.again (HJ5.out.below hb) good_al2 al2_calm false rfl
  rw [al_open2, al_scan] at hOP
  have HOP := Aside0.mk hOP
  clear hb hOP HJ5 HM5 HSZ
  go_wp2_with fail
  refine HOP.out.mono ?_
  rintro e w7 ⟨jb2, A7, c7, S7, rfl, hJ, hM, hR⟩
  have hC7 := (Kd.R_reads' hR).2.2
  obtain ⟨ad, B, cb, rfl, hx, hcb, hCb⟩ := rows_at hC7 (i := 0) (by decide)
  have hx' : w7.cell? ad = some (.slice B 2 cb) := by rw [← add0 ad]; exact hx
  have hcv : (convert 22 9 (.slice B 2 cb)).run Try.prog w7 = .ok (.string { data := #[97, 98] }) w7 := Kd.C_string (P := Try.prog) Try.underlying22 Try.underlying5 Try.underlying9 hCb
  have hLF := jLeft.calls hJ good_al2
  rw [al_left2] at hLF
  have HLF := Aside0.mk hLF
  have HM7 := Aside0.mk (HM6.out.trans hM)
  clear hJ hM hR hx hC7 hCb hcb HOP HJ6 HM6 hLF
  go_wp2_with fail
  refine HLF.out.mono ?_
  rintro e w8 ⟨rfl, hb⟩
  have HM8 := Aside0.mk (HM7.out.then_below hb)
  clear hb
  go_wp2_with fail
  go_ret
  exact ⟨rfl, HM8.out.base HB1.out (fun k hk => by rw [← HSG.out]; exact hk.1) HB1.out.size⟩
end Go.Proofs.Ytdlfabbhdelinaa.Q
