/- A disk in memory, walked: part 4. No condition but those typed. -/
import Derived.Test.YtjiboeokockdcaaWalk0
import Derived.Test.YtjiboeokockdcaaDisk09
import Derived.Test.YtjiboeokockdcaaDk3
namespace Go.Proofs.Ytjiboeokockdcaa.Q
open Go.RowKit Go.Proofs.YtjiboeokockdcaaW.PrintWords Go.Proofs.YtjiboeokockdcaaW.PrintLast Go.Proofs.YtjiboeokockdcaaW.PrintMore
open Go.Proofs.Ytjiboeokockdcaa.Dk
attribute [local go_sem] max2_int min2_int max_two min_two max_three min_three max_four min_four   -- for this text's walks alone
set_option linter.unusedVariables false
set_option linter.unusedSimpArgs false
theorem w64n {n : Nat} (h : n ≤ 1000000) : wrap64 ((n : Int) + 1) = ((n + 1 : Nat) : Int) := by
  unfold wrap64
  omega
def sh (n : Nat) : Nat := if 60 < n then 60 else n
theorem law_short.calls {A : Option Addr} {n c : Nat} (hc : n ≤ c) (w : World) :
    Calls Try.prog 11 #[.slice A n c] w fun e w' => e = .returned (.slice A (sh n) c) ∧ w' = w := by
  by_cases t : 60 < n
  · rw [show sh n = 60 from if_pos t]
    have t2 : 60 ≤ c := by omega
    go_enter Try.func11, Try.ntmps11
    go_wp2_with fail
    all_goals first | omega | skip
    go_ret
    exact ⟨rfl, rfl⟩
  · rw [show sh n = n from if_neg t]
    go_enter Try.func11, Try.ntmps11
    go_wp2_with fail
    all_goals first | omega | skip
    go_ret
    exact ⟨rfl, rfl⟩
theorem add9 (ad : Addr) (i j : Nat) : (ad.add (i * 9)).add j = ad.add (i * 9 + j) := by
  unfold Addr.add
  split <;> split <;> simp_all <;> omega
/-- An element of a script, cell by cell. -/
theorem script_at {w : World} {A : Option Addr} {n : Nat} {l : List Ac} (h : dA.C w A n l) {i : Nat} (hi : i < l.length) : ∃ ad B cb k0 k1 c0 c1, A = some ad ∧ (l[i]'hi).b.length ≤ cb ∧ (Kd.int .u8).C w B (l[i]'hi).b.length (l[i]'hi).b ∧ (l[i]'hi).ks = [k0, k1] ∧ (l[i]'hi).cs = [c0, c1] ∧
    ∀ j v, (av (l[i]'hi) B cb k0 k1 c0 c1)[j]? = some v → w.cell? ((ad.add (i * 9)).add j) = some v := by
  obtain ⟨ad, hA, hc⟩ := h.2.2 (by have := h.1; omega)
  obtain ⟨cs, hl, hK, hcell⟩ := hc i _ (List.getElem?_eq_getElem hi)
  obtain ⟨B, cb, k0, k1, c0, c1, rfl, hb, hC, hk, hcs⟩ := dA_open hK
  refine ⟨ad, B, cb, k0, k1, c0, c1, hA, hb, hC, hk, hcs, fun j v hv => ?_⟩
  rw [add9]
  exact hcell j v (by simpa using hv)
set_option maxHeartbeats 4000000 in
set_option maxRecDepth 100000 in
theorem law_far.calls {w : World} {A : Option Addr} {c : Nat} {l : List Ac} (hC : dA.C w A l.length l) (hc : l.length ≤ c) :
    Calls Try.prog 7 #[.slice A l.length c] w fun e w' => ∃ b, e = .returned (.bool b) ∧ Below w.heap.size w w' := by
  have HC := Aside0.mk hC
  have HS := Aside0.mk (law_short.calls (A := A) hc)
  obtain ⟨m, hm⟩ : ∃ m, m = sh l.length := ⟨_, rfl⟩
  have HM := Aside0.mk (show m ≤ l.length ∧ m ≤ 60 from by rw [hm]; unfold sh; split <;> omega)
  rw [← hm] at HS
  clear hC hc hm
  go_enter Try.func7, Try.ntmps7
  go_wp2_with fail
  refine (HS.out _).mono ?_
  rintro e w1 ⟨rfl, rfl⟩
  have HB0 := Aside0.mk (Below.refl w1.heap.size w1)
  go_wp2_with fail
  go_loopw [3, 9] (fun s j wr => ∃ (t : Int) (n : Nat), n ≤ m ∧ s = .int .i64 t ∧ j = .int .i64 n ∧ Aside0 (Below w1.heap.size w1 wr)) (fun _ j _ => m - (intOf j).toNat)
  case atStart => exact ⟨0, 0, Nat.zero_le _, rfl, rfl, HB0⟩
  case round =>
    clear HB0
    obtain ⟨t, n, hn, rfl, rfl, HB⟩ := hrel
    by_cases hlt : n < m
    · have hl : n < l.length := by have := HM.out; omega
      obtain ⟨ad, B, cb, k0, k1, c0, c1, rfl, hb, hbC, hk, hcs, hx⟩ := script_at (Kd.C_below HC.out HB.out) hl
      generalize l[n] = a at hb hbC hk hcs hx
      obtain ⟨X, hX⟩ : ∃ X, X = ad.add (n * 9) := ⟨_, rfl⟩
      have hXe : ad.add (n * 9) = X := hX.symm
      rw [hXe] at hx
      clear hX
      have hx0 : wr.cell? X = some (.int .u8 a.kind) := hx 0 _ rfl
      have hx1 : wr.cell? ⟨X.block, X.off + 1, none⟩ = some (.int .i64 a.file) := hx 1 _ rfl
      have hx2 : wr.cell? ⟨X.block, X.off + 2, none⟩ = some (.int .i64 a.n) := hx 2 _ rfl
      have hx3 : wr.cell? ⟨X.block, X.off + 3, none⟩ = some (.bool a.behind) := hx 3 _ rfl
      have hx4 : wr.cell? ⟨X.block, X.off + 4, none⟩ = some (.slice B a.b.length cb) := hx 4 _ rfl
      have hx5 : wr.cell? ⟨X.block, X.off + 5, none⟩ = some (.int .i64 k0) := hx 5 _ rfl
      have hx6 : wr.cell? ⟨X.block, X.off + 6, none⟩ = some (.int .i64 k1) := hx 6 _ rfl
      have hx7 : wr.cell? ⟨X.block, X.off + 7, none⟩ = some (.bool c0) := hx 7 _ rfl
      have hx8 : wr.cell? ⟨X.block, X.off + 8, none⟩ = some (.bool c1) := hx 8 _ rfl
      clear hx hb hbC hk hcs
      go_wp2_with fail
      have en : wrap64 ((n : Int) + 1) = ((n + 1 : Nat) : Int) := w64n (by have := HM.out; omega)
      rw [en]
      go_round
      case rel => exact ⟨_, n + 1, by omega, rfl, rfl, ⟨HB.out.alloc HB.out.size _⟩⟩
      case measure => simp [intOf]; omega
    · obtain rfl : n = m := by omega
      go_wp2_with fail
      go_ret
      exact ⟨_, rfl, HB.out⟩
theorem V_block {w : World} {g : Nat} {xs : List Int} {n : Nat} {fr : Nat × Nat} (h : w.heap[g]? = some (.cells (nums .u8 xs).toArray 5 fr)) (hn : xs.length = n) (hm : n ≤ 9223372036854775807) : Vb (fun k => k = g) w (.slice (some ⟨g, 0, none⟩) n n) xs := by
  subst hn
  refine Kd.V_mk (Nat.le_refl _) (fun W' hW => ?_)
  have h' : W'.heap[g]? = some (.cells (nums .u8 xs).toArray 5 fr) := (hW g rfl (Array.getElem?_eq_some_iff.1 h).1).trans h
  exact Kd.C_ints_block (k := .u8) (xs := xs) h' (by simp [nums, List.take_of_length_le]) hm
theorem good_new {room : Int} (h1 : 1 ≤ room) (h2 : room ≤ 1048576) : Good (newD room) :=
  ⟨⟨show 0 < room by omega, h2, show 0 ≤ 1048576 by decide, show 0 ≤ 1048576 by decide⟩, ⟨show (-1 : Int) ≤ -1 by decide, show (-1 : Int) < 9223372036854775808 by decide⟩, ⟨show 0 ≤ 1048576 by decide, show 0 ≤ 1048576 by decide, .inl ⟨rfl, List.prefix_refl _⟩⟩, ⟨show 0 ≤ 1048576 by decide, show 0 ≤ 1048576 by decide, .inl ⟨rfl, List.prefix_refl _⟩⟩⟩
def al1 : D := ⟨⟨[97, 98], [], -1⟩, ⟨[], [], -1⟩, 0, 100, false, -1, false⟩
def al2 : D := ⟨⟨[97, 98], [97, 98], -1⟩, ⟨[], [], -1⟩, 0, 100, false, -1, false⟩
def al3 : D := ⟨⟨[97, 98, 99, 100], [97, 98], -1⟩, ⟨[], [], -1⟩, 0, 100, false, -1, false⟩
def al4 : D := ⟨⟨[97, 98, 99, 100], [97, 98], -1⟩, ⟨[], [], -1⟩, 0, 100, true, -1, false⟩
def al5 : D := ⟨⟨[97, 98, 99], [97, 98, 99], -1⟩, ⟨[], [], -1⟩, 0, 100, false, -1, false⟩
theorem good_al {n s : List Int} {off : Bool} (hn : n.length ≤ 100) (hs : s.length ≤ 100) (hp : s <+: n) : Good ⟨⟨n, s, -1⟩, ⟨[], [], -1⟩, 0, 100, off, -1, false⟩ :=
  ⟨⟨show (0 : Int) < 100 by decide, show (100 : Int) ≤ 1048576 by decide, show n.length ≤ 1048576 by omega, show 0 ≤ 1048576 by decide⟩, ⟨show (-1 : Int) ≤ -1 by decide, show (-1 : Int) < 9223372036854775808 by decide⟩, ⟨show n.length ≤ 1048576 by omega, show s.length ≤ 1048576 by omega, .inl ⟨rfl, hp⟩⟩, ⟨show 0 ≤ 1048576 by decide, show 0 ≤ 1048576 by decide, .inl ⟨rfl, List.prefix_refl _⟩⟩⟩
theorem good_al1 : Good al1 := good_al (by decide) (by decide) ⟨[97, 98], rfl⟩
theorem good_al2 : Good al2 := good_al (by decide) (by decide) ⟨[], rfl⟩
theorem good_al3 : Good al3 := good_al (by decide) (by decide) ⟨[99, 100], rfl⟩
theorem good_al4 : Good al4 := good_al (by decide) (by decide) ⟨[99, 100], rfl⟩
theorem good_al5 : Good al5 := good_al (by decide) (by decide) ⟨[], rfl⟩
theorem al_1 {g : Nat} {ok okb : Nat → Prop} {w : World} (h : At g ok (newD 100) w) {bv : Value} (hb : Vb okb w bv [97, 98]) (hbg : ¬ okb g) :
    Calls Try.prog 9 #[.pointer (some ⟨g, 0, none⟩), .int .i64 0, bv] w fun e w' => e = .returned (.int .i64 0) ∧ At g ok al1 w' ∧ Tn g w w' :=
  disk_Append.all h (good_new (by decide) (by decide)) 0 hb hbg
theorem al_2 {g : Nat} {ok : Nat → Prop} {w : World} (h : At g ok al1 w) :
    Calls Try.prog 10 #[.pointer (some ⟨g, 0, none⟩), .int .i64 0] w fun e w' => e = .returned (.int .i64 0) ∧ At g ok al2 w' ∧ Tn g w w' :=
  disk_Sync.all h good_al1 0
theorem al_3 {g : Nat} {ok okb : Nat → Prop} {w : World} (h : At g ok al2 w) {bv : Value} (hb : Vb okb w bv [99, 100]) (hbg : ¬ okb g) :
    Calls Try.prog 9 #[.pointer (some ⟨g, 0, none⟩), .int .i64 0, bv] w fun e w' => e = .returned (.int .i64 0) ∧ At g ok al3 w' ∧ Tn g w w' :=
  disk_Append.all h good_al2 0 hb hbg
theorem al_4 {g : Nat} {ok : Nat → Prop} {w : World} (h : At g ok al3 w) :
    Calls Try.prog 14 #[.pointer (some ⟨g, 0, none⟩)] w fun e w' => e = .returned (.tuple #[]) ∧ At g ok al4 w' ∧ Tn g w w' :=
  disk_Fail.calls h (by decide)
theorem al_5 {g : Nat} {ok : Nat → Prop} {w : World} (h : At g ok al4 w) :
    Calls Try.prog 15 #[.pointer (some ⟨g, 0, none⟩), .agg #[.int .i64 1, .int .i64 0, .bool false, .bool false]] w fun e w' => e = .returned (.int .i64 0) ∧ At g ok al5 w' ∧ Tn g w w' :=
  disk_Start.all h good_al4 1 0 false false
theorem al_6 {g : Nat} {ok : Nat → Prop} {w : World} (h : At g ok al5 w) :
    Calls Try.prog 13 #[.pointer (some ⟨g, 0, none⟩), .int .i64 0] w fun e w' => ∃ v', e = .returned (.tuple #[v', .int .i64 0]) ∧ Rb w.heap.size w' v' [97, 98, 99] ∧ Below w.heap.size w w' :=
  disk_Read.calls h (by decide) rfl false (by decide)
theorem al_7 {g : Nat} {ok : Nat → Prop} {w : World} (h : At g ok al5 w) :
    Calls Try.prog 17 #[.pointer (some ⟨g, 0, none⟩)] w fun e w' => e = .returned (.int .i64 97) ∧ Below w.heap.size w w' :=
  disk_Left.calls h good_al5.room
set_option maxHeartbeats 4000000 in
set_option maxRecDepth 100000 in
theorem law_alive.calls (w : World) : Calls Try.prog 8 #[] w fun e w' => e = .returned (.bool true) ∧ Below w.heap.size w w' := by
  go_enter Try.func8, Try.ntmps8
  go_wp2_with fail
  refine (disk_New.calls (by decide) (by decide) (fun k => w.heap.size < k) (by omega) (fun _ hk => hk)).mono ?_
  rintro e w1 ⟨rfl, hA, hB⟩
  have HA1 := Aside0.mk hA
  have HB1 := Aside0.mk hB
  obtain ⟨g, hg⟩ : ∃ g, g = w.heap.size := ⟨_, rfl⟩
  have HGE := Aside0.mk hg
  rw [← hg] at HA1 ⊢
  clear hA hB hg
  have hcv := Lib.run_convert_bytes_const (P := Try.prog) w1 23 5 #[.int .u8 97, .int .u8 98] 2 2 Try.underlying23 Try.underlying5
  go_wp2_with fail
  clear hcv
  have N2 := heap_new w1 (.cells #[.int .u8 97, .int .u8 98] 5 (2, 3)) rfl
  have V2 := V_block (xs := [97, 98]) (n := 2) N2 rfl (by decide)
  refine (al_1 (HA1.out.below (below_alloc (Below.refl _ _) _)) V2 (by have := HA1.out.lt; omega)).mono ?_
  rintro e w2 ⟨rfl, hA, hT⟩
  have HA2 := Aside0.mk hA
  have HB2 := Aside0.mk (((Tn.refl g w1).alloc _).trans hT |>.base HB1.out (by rw [HGE.out]; exact Nat.le_refl _) HB1.out.size)
  clear hA hT N2 V2
  go_wp2_with fail
  refine (al_2 HA2.out).mono ?_
  rintro e w3 ⟨rfl, hA, hT⟩
  have HA3 := Aside0.mk hA
  have HB3 := Aside0.mk (hT.base HB2.out (by rw [HGE.out]; exact Nat.le_refl _) HB2.out.size)
  clear hA hT
  have hcv := Lib.run_convert_bytes_const (P := Try.prog) w3 23 5 #[.int .u8 99, .int .u8 100] 2 2 Try.underlying23 Try.underlying5
  go_wp2_with fail
  clear hcv
  have N2 := heap_new w3 (.cells #[.int .u8 99, .int .u8 100] 5 (2, 3)) rfl
  have V2 := V_block (xs := [99, 100]) (n := 2) N2 rfl (by decide)
  refine (al_3 (HA3.out.below (below_alloc (Below.refl _ _) _)) V2 (by have := HA3.out.lt; omega)).mono ?_
  rintro e w4 ⟨rfl, hA, hT⟩
  have HA4 := Aside0.mk hA
  have HB4 := Aside0.mk (((Tn.refl g w3).alloc _).trans hT |>.base HB3.out (by rw [HGE.out]; exact Nat.le_refl _) HB3.out.size)
  clear hA hT N2 V2
  go_wp2_with fail
  refine (al_4 HA4.out).mono ?_
  rintro e w5 ⟨rfl, hA, hT⟩
  have HA5 := Aside0.mk hA
  have HB5 := Aside0.mk (hT.base HB4.out (by rw [HGE.out]; exact Nat.le_refl _) HB4.out.size)
  clear hA hT
  go_wp2_with fail
  refine (al_5 HA5.out).mono ?_
  rintro e w6 ⟨rfl, hA, hT⟩
  have HA6 := Aside0.mk hA
  have HB6 := Aside0.mk (hT.base HB5.out (by rw [HGE.out]; exact Nat.le_refl _) HB5.out.size)
  clear hA hT
  go_wp2_with fail
  refine (al_6 HA6.out).mono ?_
  rintro e w7 ⟨v7, rfl, ho, hb⟩
  have hcv := own_string (P := Try.prog) Try.underlying23 Try.underlying5 Try.underlying9 (Kd.own_of_R ho)
  have hs : strOfNums [97, 98, 99] = ⟨#[97, 98, 99]⟩ := rfl
  rw [hs] at hcv
  have HA7 := Aside0.mk (HA6.out.below hb)
  have HB7 := Aside0.mk (HB6.out.trans (hb.mono HB6.out.size))
  clear ho hb hs
  go_wp2_with fail
  refine (al_7 HA7.out).mono ?_
  rintro e w8 ⟨rfl, hb⟩
  have HB8 := Aside0.mk (HB7.out.trans (hb.mono HB7.out.size))
  clear hb
  go_wp2_with fail
  go_ret
  exact ⟨rfl, HB8.out⟩
theorem disk_Read.all {g : Nat} {ok : Nat → Prop} {d : D} {w : World} (h : At g ok d w) (hg : Good d) (f : Int) :
    Calls Try.prog 13 #[.pointer (some ⟨g, 0, none⟩), .int .i64 f] w fun e w' => ∃ v', e = .returned (.tuple #[v', .int .i64 (fe d f)]) ∧ Rb w.heap.size w' v' (if fe d f ≠ 0 then [] else (d.fl (bi f)).now) ∧ Below w.heap.size w w' := by
  by_cases hf : fe d f ≠ 0
  · rw [if_pos hf]
    exact (disk_Read.err (disk_file.er h hg.room.pos f hf) hf).mono (fun e w' q => ⟨_, q.1, Kd.R_nil _ _ _ _ _, q.2 ▸ Below.refl _ _⟩)
  · rw [if_neg hf]
    obtain ⟨i, h1, h2, ho⟩ := gate_open hf
    rw [show fe d f = 0 from by simpa using hf, h2, h1]
    refine disk_Read.calls h hg.room.pos ho i ?_
    have h3 := hg.a.now
    have h4 := hg.b.now
    cases i <;> simp only [D.fl] <;> omega
theorem good_fl {d d' : D} (h : Good d) (ha : d'.a = d.a) (hb : d'.b = d.b) (hr : d'.room = d.room) (hf : -1 ≤ d'.fuse ∧ d'.fuse < 9223372036854775808) : Good d' :=
  ⟨⟨hr ▸ h.room.pos, hr ▸ h.room.most, ha ▸ h.room.la, hb ▸ h.room.lb⟩, hf, ha ▸ h.a, hb ▸ h.b⟩
theorem good_put {d : D} (h : Good d) (i : Bool) {x : Fl} (hx : FlOk x) : Good (d.put i x) := by
  cases i
  · exact ⟨⟨h.room.pos, h.room.most, hx.now, h.room.lb⟩, h.fuse, hx, h.b⟩
  · exact ⟨⟨h.room.pos, h.room.most, h.room.la, hx.now⟩, h.fuse, h.a, hx⟩
theorem flok {d : D} (h : Good d) (i : Bool) : FlOk (d.fl i) := by
  cases i
  · exact h.a
  · exact h.b
theorem good_act {d : D} {m : Int} {dof : D → D} (h : Good d) (hd : m = 0 → ∀ f o, Good { d with fuse := f, off := o } → Good (dof { d with fuse := f, off := o })) : Good (actD m dof d) := by
  unfold actD
  by_cases hm : m ≠ 0
  · rw [if_pos hm]; exact h
  rw [if_neg hm]
  have hm0 : m = 0 := by simpa using hm
  have hf := h.fuse
  by_cases h1 : 0 < d.fuse
  · rw [if_pos h1]
    exact hd hm0 (d.fuse - 1) d.off (good_fl h rfl rfl rfl (by constructor <;> (show _ ; simp only []; omega)))
  rw [if_neg h1]
  by_cases h2 : d.fuse = 0
  · rw [if_pos h2]
    have hg : Good { d with fuse := -1, off := true } := good_fl h rfl rfl rfl ⟨show (-1 : Int) ≤ -1 by decide, show (-1 : Int) < 9223372036854775808 by decide⟩
    by_cases h3 : d.behind = true
    · rw [if_pos h3]; exact hd hm0 (-1) true hg
    · rw [if_neg h3]; exact hg
  rw [if_neg h2]
  exact hd hm0 d.fuse d.off h
theorem good_gate {d d' : D} {f : Int} (h : Good d) (h' : Good d') : Good (gateD d f d') := by
  unfold gateD
  split
  · exact h
  · exact h'
theorem flok_syn {f : Fl} (h : FlOk f) : FlOk ⟨f.now, f.now, -1⟩ := ⟨h.now, h.now, .inl ⟨rfl, List.prefix_refl _⟩⟩
theorem flok_app {f : Fl} (h : FlOk f) {b : List Int} (hb : f.now.length + b.length ≤ 1048576) : FlOk { f with now := f.now ++ b } := by
  refine ⟨by show (f.now ++ b).length ≤ 1048576; rw [List.length_append]; exact hb, h.sure, ?_⟩
  rcases h.cut with ⟨h1, h2⟩ | ⟨h1, h2, h3⟩
  · exact .inl ⟨h1, h2.trans (List.prefix_append _ _)⟩
  · exact .inr ⟨h1, h2, h3.trans (List.prefix_append _ _)⟩
def truF (n : Int) (f : Fl) : Fl := { f with now := f.now.take n.toNat, cut := if n < (f.sure.length : Int) ∧ (f.cut = -1 ∨ n < f.cut) then n else f.cut }
theorem flok_tru {f : Fl} (h : FlOk f) {n : Int} (h0 : 0 ≤ n) (h1 : n ≤ f.now.length) : FlOk (truF n f) := by
  refine ⟨?_, h.sure, ?_⟩
  · show (f.now.take n.toNat).length ≤ 1048576
    rw [List.length_take]
    have := h.now
    omega
  unfold truF
  simp only []
  by_cases hc : n < (f.sure.length : Int) ∧ (f.cut = -1 ∨ n < f.cut)
  · rw [if_pos hc]
    refine .inr ⟨h0, hc.1, ?_⟩
    rw [List.prefix_take_iff]
    refine ⟨?_, by rw [List.length_take]; omega⟩
    rcases h.cut with ⟨_, h3⟩ | ⟨h2, h3, h4⟩
    · exact (List.take_prefix _ _).trans h3
    · have h5 : n < f.cut := by rcases hc.2 with h5 | h5 <;> omega
      have h6 : f.sure.take n.toNat <+: f.sure.take f.cut.toNat := by
        rw [List.prefix_take_iff]
        exact ⟨List.take_prefix _ _, by rw [List.length_take]; omega⟩
      exact h6.trans h4
  · rw [if_neg hc]
    rcases h.cut with ⟨h2, h3⟩ | ⟨h2, h3, h4⟩
    · refine .inl ⟨h2, ?_⟩
      rw [List.prefix_take_iff]
      refine ⟨h3, ?_⟩
      by_cases h5 : n < (f.sure.length : Int)
      · exact absurd ⟨h5, .inl h2⟩ hc
      · omega
    · refine .inr ⟨h2, h3, ?_⟩
      rw [List.prefix_take_iff]
      refine ⟨h4, ?_⟩
      rw [List.length_take]
      by_cases h5 : n < f.cut
      · exact absurd ⟨by omega, .inr h5⟩ hc
      · omega
theorem lostT_len {keep : Int} {b : List Int} {f : Fl} (hb : b.length ≤ f.now.length) : (lostT keep b f).length ≤ f.now.length := by
  unfold lostT
  rw [List.length_append, List.length_take, List.length_drop]
  omega
theorem flok_lost {f : Fl} (h : FlOk f) (keep : Int) (cut : Bool) : FlOk (lost keep cut f) := by
  have key : ∀ z : List Int, z.length ≤ 1048576 → FlOk ⟨z, z, -1⟩ := fun z hz => ⟨hz, hz, .inl ⟨rfl, List.prefix_refl _⟩⟩
  have hn := h.now
  have hs := h.sure
  by_cases hc : f.cut = -1
  · rw [lost_none hc]
    have := lostT_len (keep := keep) (h.none hc).length_le
    exact key _ (by omega)
  · cases cut
    · rw [lost_keep hc]
      exact key _ hs
    · rw [lost_cut hc]
      have := lostT_len (keep := keep) (h.some hc).2.2.length_le
      exact key _ (by omega)
theorem good_tru {d : D} (h : Good d) (i : Bool) {n : Int} (hm : troom n (d.fl i) = 0) : Good (tru i n d) := by
  have hb : ¬ (n < 0 ∨ ((d.fl i).now.length : Int) < n) := fun hh => by
    rw [show troom n (d.fl i) = 1 from if_pos hh] at hm
    cases hm
  exact good_put h i (flok_tru (flok h i) (by omega) (by omega))
theorem good_app {d : D} (h : Good d) (i : Bool) {b : List Int} (hm : room1 d b.length = 0) : Good (app i b d) := by
  have hb : ¬ (d.room - d.a.now.length - d.b.now.length < b.length) := fun hh => by
    rw [show room1 d b.length = 11 from if_pos hh] at hm
    cases hm
  have hr := h.room.most
  refine good_put h i (flok_app (flok h i) ?_)
  cases i <;> simp only [D.fl] <;> omega
theorem fl_same (d : D) (f : Int) (o : Bool) (i : Bool) : ({ d with fuse := f, off := o } : D).fl i = d.fl i := by cases i <;> rfl
theorem good_arm {d : D} (h : Good d) {n : Int} (b : Bool) (hn : n < 9223372036854775808) : Good (armD n b d) :=
  good_fl h rfl rfl rfl (by show -1 ≤ (if n < -1 then -1 else n) ∧ (if n < -1 then -1 else n) < 9223372036854775808; split <;> omega)
theorem good_start {d : D} (h : Good d) (x0 x1 : Int) (y0 y1 : Bool) : Good (startD x0 x1 y0 y1 d) := by
  unfold startD
  split
  · have h0 : Good (st0 d) := good_fl h rfl rfl rfl ⟨by show (-1 : Int) ≤ -1; decide, by show (-1 : Int) < 9223372036854775808; decide⟩
    have h1 : Good (st1 x0 y0 d) := good_put h0 false (flok_lost h.a x0 y0)
    exact good_put h1 true (flok_lost h.b x1 y1)
  · exact h
theorem good_does {d : D} (h : Good d) (a : Ac) (hn : a.n < 9223372036854775808) : Good (doesD a d) := by
  unfold doesD
  split
  · exact good_gate h (good_act h (fun _ f o hg => good_put hg _ (flok_syn (flok hg _))))
  split
  · exact good_gate h (good_act h (fun hm f o hg => good_tru hg _ (by rw [fl_same]; exact hm)))
  split
  · exact good_gate h (good_act h (fun _ f o hg => good_fl hg rfl rfl rfl hg.fuse))
  split
  · exact good_arm h a.behind hn
  split
  · exact good_fl h rfl rfl rfl ⟨by show (-1 : Int) ≤ -1; decide, by show (-1 : Int) < 9223372036854775808; decide⟩
  split
  · exact good_start h _ _ _ _
  · exact good_gate h (good_act h (fun hm f o hg => good_app hg _ hm))
/-- What is done with file 0 turns nothing of file 1. -/
structure Calm (l : List Int) (d : D) : Prop where
  good : Good d
  now : d.b.now = l
  off : d.off = false
  fuse : d.fuse = -1
theorem actD_calm {d : D} {m : Int} {dof : D → D} (hf : d.fuse = -1) : actD m dof d = if m ≠ 0 then d else dof d := by
  unfold actD
  rw [if_neg (show ¬ (0 < d.fuse) by omega), if_neg (show ¬ (d.fuse = 0) by omega)]
theorem off_syn (i : Bool) (d : D) : (syn i d).off = d.off := by cases i <;> rfl
theorem off_tru (i : Bool) (n : Int) (d : D) : (tru i n d).off = d.off := by cases i <;> rfl
theorem off_app (i : Bool) (b : List Int) (d : D) : (app i b d).off = d.off := by cases i <;> rfl
theorem fuse_syn (i : Bool) (d : D) : (syn i d).fuse = d.fuse := by cases i <;> rfl
theorem fuse_tru (i : Bool) (n : Int) (d : D) : (tru i n d).fuse = d.fuse := by cases i <;> rfl
theorem fuse_app (i : Bool) (b : List Int) (d : D) : (app i b d).fuse = d.fuse := by cases i <;> rfl
/-- The kinds that a law's script may have where no power is lost. -/
def Mild (k : Int) : Prop := k < 4 ∨ k = 7
theorem does_mild {a : Ac} {d : D} (hk : Mild (Int.tmod a.kind 8)) (hf : d.fuse = -1) {C : D → Int → Prop}
    (h1 : fe d a.file ≠ 0 → C d (fe d a.file))
    (h2 : fe d a.file = 0 → Int.tmod a.kind 8 = 1 → C (syn (bi a.file) d) 0)
    (h3 : fe d a.file = 0 → Int.tmod a.kind 8 = 2 → troom a.n (d.fl (bi a.file)) = 0 → C (tru (bi a.file) a.n d) 0)
    (h4 : fe d a.file = 0 → Int.tmod a.kind 8 = 2 → troom a.n (d.fl (bi a.file)) ≠ 0 → C d (troom a.n (d.fl (bi a.file))))
    (h5 : fe d a.file = 0 → Int.tmod a.kind 8 = 3 → C (swi a.file d) 0)
    (h6 : fe d a.file = 0 → Int.tmod a.kind 8 ≠ 1 → Int.tmod a.kind 8 ≠ 2 → Int.tmod a.kind 8 ≠ 3 → room1 d a.b.length = 0 → C (app (bi a.file) a.b d) 0)
    (h7 : fe d a.file = 0 → Int.tmod a.kind 8 ≠ 1 → Int.tmod a.kind 8 ≠ 2 → Int.tmod a.kind 8 ≠ 3 → room1 d a.b.length ≠ 0 → C d (room1 d a.b.length)) : C (doesD a d) (doesE a d) := by
  have aD : ∀ m dof, actD m dof d = if m ≠ 0 then d else dof d := fun m dof => actD_calm hf
  have aE : ∀ m, actE m d = if m ≠ 0 then m else 0 := fun m => by unfold actE; rw [if_neg (show ¬ (d.fuse = 0) by omega)]
  unfold doesD doesE gateD gateE
  simp only [aD, aE]
  by_cases hg : fe d a.file = 0
  · simp only [hg, ne_eq, not_true_eq_false, if_false]
    by_cases k1 : Int.tmod a.kind 8 = 1
    · rw [if_pos k1, if_pos k1]; exact h2 hg k1
    rw [if_neg k1, if_neg k1]
    by_cases k2 : Int.tmod a.kind 8 = 2
    · rw [if_pos k2, if_pos k2]
      by_cases hm : troom a.n (d.fl (bi a.file)) = 0
      · simp only [hm, not_true_eq_false, if_false]; exact h3 hg k2 hm
      · simp only [hm, not_false_eq_true, if_true]; exact h4 hg k2 hm
    rw [if_neg k2, if_neg k2]
    by_cases k3 : Int.tmod a.kind 8 = 3
    · rw [if_pos k3, if_pos k3]; exact h5 hg k3
    rw [if_neg k3, if_neg k3]
    have k4 : ¬ Int.tmod a.kind 8 = 4 := by rcases hk with hk | hk <;> omega
    have k5 : ¬ Int.tmod a.kind 8 = 5 := by rcases hk with hk | hk <;> omega
    have k6 : ¬ Int.tmod a.kind 8 = 6 := by rcases hk with hk | hk <;> omega
    rw [if_neg k4, if_neg k4, if_neg k5, if_neg k5, if_neg k6, if_neg k6]
    by_cases hm : room1 d a.b.length = 0
    · simp only [hm, not_true_eq_false, if_false]; exact h6 hg k1 k2 k3 hm
    · simp only [hm, not_false_eq_true, if_true]; exact h7 hg k1 k2 k3 hm
  · have k4 : ¬ Int.tmod a.kind 8 = 4 := by rcases hk with hk | hk <;> omega
    have k5 : ¬ Int.tmod a.kind 8 = 5 := by rcases hk with hk | hk <;> omega
    have k6 : ¬ Int.tmod a.kind 8 = 6 := by rcases hk with hk | hk <;> omega
    have e : ∀ {α : Type} (x : α) (y : α), (if fe d a.file ≠ 0 then x else y) = x := fun x y => if_pos hg
    simp only [e, if_neg k4, if_neg k5, if_neg k6, ite_self]
    exact h1 hg
theorem calm_does {l : List Int} {d : D} (h : Calm l d) (a : Ac) (h0 : a.file = 0) (hk : Mild (Int.tmod a.kind 8)) (hn : a.n < 9223372036854775808) : Calm l (doesD a d) := by
  have hg := good_does h.good a hn
  have hb : bi a.file = false := by rw [h0]; rfl
  have r : (fun d' (_ : Int) => d'.b.now = l ∧ d'.off = false ∧ d'.fuse = -1) (doesD a d) (doesE a d) := by
    refine does_mild (C := fun d' _ => d'.b.now = l ∧ d'.off = false ∧ d'.fuse = -1) hk h.fuse ?_ ?_ ?_ ?_ ?_ ?_ ?_
    · exact fun _ => ⟨h.now, h.off, h.fuse⟩
    · exact fun _ _ => by rw [hb]; exact ⟨h.now, h.off, h.fuse⟩
    · exact fun _ _ _ => by rw [hb]; exact ⟨h.now, h.off, h.fuse⟩
    · exact fun _ _ _ => ⟨h.now, h.off, h.fuse⟩
    · exact fun _ _ => ⟨h.now, h.off, h.fuse⟩
    · exact fun _ _ _ _ _ => by rw [hb]; exact ⟨h.now, h.off, h.fuse⟩
    · exact fun _ _ _ _ _ => ⟨h.now, h.off, h.fuse⟩
  exact ⟨hg, r.1, r.2.1, r.2.2⟩
/-- What was refused, the power on as before, turned nothing. -/
theorem gate_same {d : D} {f m : Int} {dof : D → D} (hE : gateE d f (actE m d) ≠ 0) (hO : (gateD d f (actD m dof d)).off = d.off) (hoff : ∀ d', (dof d').off = d'.off) : gateD d f (actD m dof d) = d := by
  unfold gateE at hE
  unfold gateD at hO ⊢
  by_cases hf : fe d f ≠ 0
  · rw [if_pos hf]
  rw [if_neg hf] at hE hO ⊢
  obtain ⟨i, _, _, ho⟩ := gate_open hf
  unfold actE at hE
  unfold actD at hO ⊢
  by_cases hm : m ≠ 0
  · rw [if_pos hm]
  rw [if_neg hm] at hE hO ⊢
  by_cases h2 : d.fuse = 0
  · exfalso
    rw [if_neg (show ¬ (0 < d.fuse) by omega), if_pos h2, ho] at hO
    split at hO
    · rw [hoff] at hO
      cases hO
    · cases hO
  · rw [if_neg h2] at hE
    exact absurd rfl hE
theorem same_does {a : Ac} {d : D} (hE : doesE a d ≠ 0) (hO : (doesD a d).off = d.off) : doesD a d = d := by
  unfold doesE at hE
  unfold doesD at hO ⊢
  by_cases k1 : Int.tmod a.kind 8 = 1
  · rw [if_pos k1] at hE hO ⊢
    exact gate_same hE hO (off_syn _)
  rw [if_neg k1] at hE hO ⊢
  by_cases k2 : Int.tmod a.kind 8 = 2
  · rw [if_pos k2] at hE hO ⊢
    exact gate_same hE hO (off_tru _ _)
  rw [if_neg k2] at hE hO ⊢
  by_cases k3 : Int.tmod a.kind 8 = 3
  · rw [if_pos k3] at hE hO ⊢
    exact gate_same hE hO (fun _ => rfl)
  rw [if_neg k3] at hE hO ⊢
  by_cases k4 : Int.tmod a.kind 8 = 4
  · rw [if_pos k4] at hE
    exact absurd rfl hE
  rw [if_neg k4] at hE hO ⊢
  by_cases k5 : Int.tmod a.kind 8 = 5
  · rw [if_pos k5] at hE
    exact absurd rfl hE
  rw [if_neg k5] at hE hO ⊢
  by_cases k6 : Int.tmod a.kind 8 = 6
  · rw [if_pos k6] at hE hO ⊢
    unfold startE at hE
    unfold startD
    by_cases ho : d.off = true
    · rw [if_pos ho] at hE
      exact absurd rfl hE
    · rw [if_neg ho]
  rw [if_neg k6] at hE hO ⊢
  exact gate_same hE hO (off_app _ _)
end Go.Proofs.Ytjiboeokockdcaa.Q

