/- A journal's functions, walked: Add, Commit, Drop, Size, Snapshot. No condition but those typed. -/
import Derived.Test.YtdlfabbhdelinaaShort
import Derived.Test.YtdlfabbhdelinaaWalk0
import Derived.Test.YtdlfabbhdelinaaDisk09
import Derived.Test.YtdlfabbhdelinaaJw2
import Derived.Outline
namespace Go.Proofs.Ytdlfabbhdelinaa.Q
open Go.RowKit Go.Proofs.YtdlfabbhdelinaaW.PrintWords Go.Proofs.YtdlfabbhdelinaaW.PrintLast Go.Proofs.YtdlfabbhdelinaaW.PrintMore
open Go.Proofs.Ytdlfabbhdelinaa.Dk Go.Proofs.Ytdlfabbhdelinaa.Sh
attribute [local go_sem] max2_int min2_int max_two min_two max_three min_three max_four min_four   -- for this text's walks alone
set_option linter.unusedVariables false
set_option linter.unusedSimpArgs false
set_option maxRecDepth 100000
/-- What a journal's numbers are. -/
structure Jk (j : J) : Prop where
  many : 0 ≤ j.many ∧ j.many ≤ 1000000
  grp : j.group.length ≤ 2000000
abbrev gvb (v : Value) : Option Nat := v.ownBlock
def setG (j : J) (x : List Int) : J := ⟨j.live, x, j.many⟩
theorem Jo.grow {ok : Nat → Prop} {gv v1 : Value} {S : Nat → Prop} {g jb : Nat} {d : D} {j : J} {W w1 : World} {x : List Int} (h : Jo ok gv S g jb d j W) (hR : Kd.R (Kd.int .u8) 5 w1 0 (fun k => (¬ ok k ∨ W.heap.size ≤ k) ∧ k ≠ g ∧ k ≠ jb) v1 x) (hb : W.grownBy w1 gv.ownBlock) (hat : v1.ownBlock = gv.ownBlock ∨ ∃ b, v1.ownBlock = some b ∧ W.heap.size ≤ b) :
    ∃ ok' S', Jo ok' v1 S' g jb d (setG j x) (w1.setCell ⟨jb, 2, none⟩ v1) ∧ Mv S S' W (w1.setCell ⟨jb, 2, none⟩ v1) := by
  have hgk : ∀ k, k < W.heap.size → gv.ownBlock ≠ some k → w1.heap[k]? = W.heap[k]? := fun k hk hn => hb.block k hk (fun e => hn e.symm)
  have hne : ∀ k, (¬ (S k ∧ ¬ ok k ∧ k ≠ g ∧ k ≠ jb)) → gv.ownBlock ≠ some k := fun k hn e => hn (h.far k e)
  have hA := at_apart h.at_ hb.size (hgk g h.at_.lt (hne g (fun hh => hh.2.2.1 rfl))) (fun k hk hl => hgk k hl (hne k (fun hh => hh.2.1 hk)))
  have hB : Blk.At jb #[.pointer (some ⟨g, 0, none⟩), .int .i64 (iv j.live), gv, .int .i64 j.many] 57 w1 := (hgk jb h.blk.lt (hne jb (fun hh => hh.2.2.2 rfl))).trans h.blk
  have hown := Kd.own_of_R hR
  have hfar : ∀ k, v1.ownBlock = some k → (S k ∨ (W.heap.size ≤ k ∧ k < w1.heap.size)) ∧ ¬ (ok k ∧ (k < W.heap.size ∨ w1.heap.size ≤ k)) ∧ k ≠ g ∧ k ≠ jb := fun k hk => by
    have hl := own_lt hown k hk
    have hr := hR.1 k hk
    rcases hat with hat | ⟨b, hb1, hb2⟩
    · have := h.far k (hat ▸ hk)
      exact ⟨.inl this.1, fun hh => this.2.1 hh.1, this.2.2⟩
    · have hbk : b = k := by rw [hb1] at hk; injection hk
      subst hbk
      exact ⟨.inr ⟨hb2, hl⟩, fun hh => by omega, hr.2⟩
  refine ⟨_, fun k => S k ∨ (W.heap.size ≤ k ∧ k < w1.heap.size), ⟨hA.far h.ne (fun hh => h.nj hh.1) _, fun k hk hl => ?_, hB.set 2 v1, own_setCell hown (fun e => (hfar jb e.symm).2.2.2 rfl) _, hfar, fun hh => h.nj hh.1, .inl h.sg, .inl h.sj, h.ne, fun k hk => ?_⟩, ?_⟩
  · rcases hk.2 with hh | hh
    · exact .inl (h.ok_ k hk.1 hh)
    · have : (w1.setCell ⟨jb, 2, none⟩ v1).heap.size = w1.heap.size := by simp [World.setCell]
      omega
  · have e : (w1.setCell ⟨jb, 2, none⟩ v1).heap.size = w1.heap.size := by simp [World.setCell]
    rw [e]
    exact hk.elim (fun hh => Nat.lt_of_lt_of_le (h.lim k hh) hb.size) (fun hh => hh.2)
  · have e : (w1.setCell ⟨jb, 2, none⟩ v1).heap.size = w1.heap.size := by simp [World.setCell]
    refine ⟨hb.os, hb.tape, hb.output, by rw [e]; exact hb.size, fun k hk hs => ?_, fun k hk => hk.imp id (fun hh => hh.1)⟩
    rw [Below.heap_setCell _ _ _ _ (fun e => hs (show S k by rw [e]; exact h.sj))]
    exact hgk k hk (hne k (fun hh => hs hh.1))
theorem pre_frozen {w : World} {jb i : Nat} {v : Value} {cs : Array Value} {t : TypeId} (h : Blk.At jb cs t (w.setCell ⟨jb, i, none⟩ v)) : w.frozen? ⟨jb, i, none⟩ = false := by
  have := h.frozen i
  simpa [World.frozen?_setCell] using this
theorem pre_frozen3 {ok : Nat → Prop} {gv : Value} {S : Nat → Prop} {g jb : Nat} {d : D} {j : J} {W w1 : World} (h : Jo ok gv S g jb d j W) (hg : W.grownBy w1 gv.ownBlock) {i : Nat} : w1.frozen? ⟨jb, i, none⟩ = false := by
  have hb : Blk.At jb _ 57 w1 := (hg.block jb h.blk.lt (fun e => (h.far jb e.symm).2.2.2 rfl)).trans h.blk
  exact hb.frozen i
theorem pre_cell {ok : Nat → Prop} {gv : Value} {S : Nat → Prop} {g jb : Nat} {d : D} {j : J} {W w1 : World} (h : Jo ok gv S g jb d j W) (hg : W.grownBy w1 gv.ownBlock) {i : Nat} {v : Value} (hx : W.cell? ⟨jb, i, none⟩ = some v) : w1.cell? ⟨jb, i, none⟩ = some v :=
  (World.cell?_of_block (w := W) (hg.block jb h.blk.lt (fun e => (h.far jb e.symm).2.2.2 rfl))).trans hx
noncomputable def addJ (l : List (List Int)) (d : D) (j : J) : J := if frsE l (j.group.length : Int) d = 0 then ⟨j.live, j.group ++ flat l, j.many + l.length⟩ else j
set_option maxHeartbeats 4000000 in
theorem jAdd.calls {S : Nat → Prop} {g jb : Nat} {d : D} {j : J} {W : World} (h : Jn S g jb d j W) (hg : Good d) (hj : Jk j) {A : Option Addr} {c : Nat} {l : List (List Int)} (hC : (Kd.slice 5 (Kd.int .u8)).C W A l.length l) (hl : l.length ≤ 1000) :
    Calls Try.prog 18 #[.pointer (some ⟨jb, 0, none⟩), .slice A l.length c] W fun e w' => e = .returned (.int .i64 (frsE l (j.group.length : Int) d)) ∧ ∃ S', Jn S' g jb d (addJ l d j) w' ∧ Mv S S' W w' := by
  obtain ⟨ok, gv, ho⟩ := h
  obtain ⟨Ag, cg, rfl⟩ := ho.slice
  have HO := Aside0.mk ho
  have HFR := Aside0.mk (jframes.calls ⟨ok, _, ho⟩ hg (c := c) hC hl (j.group.length : Int) ⟨by omega, by have := hj.grp; omega⟩)
  have HOK := Aside0.mk (jok.calls ho.c0)
  have x2 := ho.c2
  have x3 := ho.c3
  have hw := (show wrap64 (j.many + (l.length : Int)) = j.many + (l.length : Int) from by have := hj.many; unfold wrap64; omega)
  have HJ := Aside0.mk hj
  have HL := Aside0.mk hl
  have HG := Aside0.mk hg
  obtain ⟨E, hE⟩ : ∃ E, E = frsE l (j.group.length : Int) d := ⟨_, rfl⟩
  rw [← hE] at HFR ⊢
  have HE := Aside0.mk hE
  clear ho hg hj hC hl hE
  go_enter Try.func18, Try.ntmps18
  go_wp2_with fail
  refine HOK.out.mono ?_
  rintro e w1 ⟨rfl, rfl⟩
  go_wp2_with fail
  refine HFR.out.mono ?_
  rintro e w2 ⟨v2, rfl, hR, hb⟩
  obtain ⟨A2, c2, rfl⟩ := Kd.R_slice hR
  have HO2 := Aside0.mk (HO.out.below hb)
  have HM2 := Aside0.mk (Mv.of_below S hb)
  have HR2 := Aside0.mk (Kd.R_reads' hR).2.2
  clear hR hb x2 x3 HFR HOK
  by_cases hE0 : E = 0
  case neg =>
    have hEb : (E != 0) = true := bne_iff_ne.mpr hE0
    have HJJ := Aside0.mk (show addJ l d j = j from if_neg (by rw [← HE.out]; exact hE0))
    clear hE0
    go_wp2_with fail
    go_ret
    refine ⟨rfl, S, ?_, HM2.out⟩
    rw [HJJ.out]
    exact ⟨_, _, HO2.out⟩
  have hEb : (E != 0) = false := bne_eq_false_iff_eq.mpr hE0
  have HJJ := Aside0.mk (show addJ l d j = ⟨j.live, j.group ++ flat l, j.many + l.length⟩ from if_pos (by rw [← HE.out]; exact hE0))
  have HLL := Aside0.mk (show frsL l (j.group.length : Int) d = flat l from if_pos (by rw [← HE.out]; exact hE0))
  rw [HLL.out] at HR2 ⊢
  have HFL := Aside0.mk (show (flat l).length ≤ 1048576 from by
    have h1 := HE.out.symm.trans hE0
    unfold frsE at h1
    split at h1
    · split at h1
      · cases h1
      · have h2 := HG.out.room.most
        unfold leftN at *
        omega
    · cases h1)
  have x2 := HO2.out.c2
  have z2 : w2.frozen? ⟨jb, 2, none⟩ = false := HO2.out.blk.frozen 2
  have HOR := Aside0.mk (show Kd.R (Kd.int .u8) 5 w2 0 (fun k => (¬ (ok k ∧ (k < w1.heap.size ∨ w2.heap.size ≤ k)) ∨ w2.heap.size ≤ k) ∧ k ≠ g ∧ k ≠ jb) (.slice Ag j.group.length cg) j.group from Kd.R_of_own HO2.out.grp (fun k hk => ⟨.inl (HO2.out.far k hk).2.1, (HO2.out.far k hk).2.2⟩))
  have HE0 := Aside0.mk hE0
  have HFRS := Aside0.mk (show ∀ k, w2.heap.size ≤ k → (¬ (ok k ∧ (k < w1.heap.size ∨ w2.heap.size ≤ k)) ∨ w2.heap.size ≤ k) ∧ k ≠ g ∧ k ≠ jb from fun k hk => ⟨.inr hk, by have := HO2.out.at_.lt; omega, by have := HO2.out.blk.lt; omega⟩)
  have HB0 := Aside0.mk (show Below 0 w2 w2 from (Below.refl w2.heap.size w2).mono (Nat.zero_le _))
  clear hE0
  go_wp2_with (at_builtin; refine Kd.R_append_row (Value.int .u8) 0 (w0 := w2) 0 rfl _ _ 22 5 (.int .u8 0) 1 rfl Try.underlying22 info5 rfl (by decide) (.slice Ag j.group.length cg) j.group (flat l) A2 (flat l).length c2 (fun k => (¬ (ok k ∧ (k < w1.heap.size ∨ w2.heap.size ≤ k)) ∨ w2.heap.size ≤ k) ∧ k ≠ g ∧ k ≠ jb) rfl rfl HFRS.out HOR.out HR2.out HB0.out (Nat.zero_le _) (by have h1 := HJ.out.grp; have h2 := HFL.out; omega) ?_; intro v3 w3 ho3 hb3 hg3 hat3; (obtain ⟨zs, hz⟩ : ∃ zs, zs = j.group ++ flat l := ⟨_, rfl⟩); rw [← hz] at ho3; obtain ⟨A3, c3, rfl⟩ := Kd.R_slice ho3; have HZ := Aside0.mk hz; clear hz; obtain ⟨ok4, S4, hJ4, hM4⟩ := HO2.out.grow ho3 hg3 hat3; have z3 : w3.frozen? ⟨jb, 2, none⟩ = false := pre_frozen hJ4.blk; have x3 := pre_cell HO2.out hg3 (v := .slice Ag j.group.length cg) x2; have y3 : w3.cell? ⟨jb, 3, none⟩ = some (.int .i64 j.many) := pre_cell HO2.out hg3 HO2.out.c3; have y4 : w3.frozen? ⟨jb, 3, none⟩ = false := pre_frozen3 HO2.out hg3; have HJ4 := Aside0.mk hJ4; have HM4 := Aside0.mk (HM2.out.trans hM4); clear ho3 hb3 hg3 hat3 hJ4 hM4 x2 z2)
  go_wp2_with fail
  rw [hw]
  go_ret
  refine ⟨by rw [HE0.out]; rfl, S4, ?_, HM4.out.trans (mv_set HJ4.out.sj)⟩
  rw [HJJ.out, ← HZ.out]
  exact ⟨_, _, HJ4.out.setMany _⟩
theorem jDrop.calls {S : Nat → Prop} {g jb : Nat} {d : D} {j : J} {W : World} (h : Jn S g jb d j W) :
    Calls Try.prog 20 #[.pointer (some ⟨jb, 0, none⟩)] W fun e w' => e = .returned (.int .i64 j.many) ∧ Jn S g jb d ⟨j.live, [], 0⟩ w' ∧ Mv S S W w' := by
  obtain ⟨ok, gv, ho⟩ := h
  have HO := Aside0.mk ho
  have HOK := Aside0.mk (jok.calls ho.c0)
  have x2 := ho.c2
  have x3 := ho.c3
  have z2 : W.frozen? ⟨jb, 2, none⟩ = false := ho.blk.frozen 2
  have z3 : W.frozen? ⟨jb, 3, none⟩ = false := ho.blk.frozen 3
  have HN := Aside0.mk ((ho.setNil).setMany 0)
  clear ho
  go_enter Try.func20, Try.ntmps20
  go_wp2_with fail
  refine HOK.out.mono ?_
  rintro e w1 ⟨rfl, rfl⟩
  go_wp2_with fail
  go_ret
  exact ⟨rfl, ⟨_, _, HN.out⟩, (mv_set HO.out.sj).trans (mv_set HO.out.sj)⟩
theorem jDrop.dead {v : Value} {W : World} (h : Jdead v W) : Calls Try.prog 20 #[v] W fun e w' => e = .returned (.int .i64 0) ∧ w' = W := by
  have HOK := Aside0.mk (jok.dead h)
  clear h
  go_enter Try.func20, Try.ntmps20
  go_wp2_with fail
  refine HOK.out.mono ?_
  rintro e w1 ⟨rfl, rfl⟩
  go_wp2_with fail
  go_ret
  exact ⟨rfl, rfl⟩
theorem jLeft.calls {S : Nat → Prop} {g jb : Nat} {d : D} {j : J} {W : World} (h : Jn S g jb d j W) (hg : Good d) :
    Calls Try.prog 27 #[.pointer (some ⟨jb, 0, none⟩)] W fun e w' => e = .returned (.int .i64 (leftN d)) ∧ Below W.heap.size W w' := by
  have HL := Aside0.mk (dn_Left h.dn hg)
  obtain ⟨ok, gv, ho⟩ := h
  have HOK := Aside0.mk (jok.calls ho.c0)
  have x0 := ho.c0
  clear ho
  go_enter Try.func27, Try.ntmps27
  go_wp2_with fail
  refine HOK.out.mono ?_
  rintro e w1 ⟨rfl, rfl⟩
  go_wp2_with fail
  refine HL.out.mono ?_
  rintro e w1 ⟨rfl, hb⟩
  have HB := Aside0.mk hb
  clear hb
  go_wp2_with fail
  go_ret
  exact ⟨rfl, HB.out⟩
theorem jGroup.calls {S : Nat → Prop} {g jb : Nat} {d : D} {j : J} {W : World} (h : Jn S g jb d j W) :
    Calls Try.prog 26 #[.pointer (some ⟨jb, 0, none⟩)] W fun e w' => e = .returned (.int .i64 (j.group.length : Int)) ∧ w' = W := by
  obtain ⟨ok, gv, ho⟩ := h
  obtain ⟨A, c, rfl⟩ := ho.slice
  have HOK := Aside0.mk (jok.calls ho.c0)
  have x2 := ho.c2
  clear ho
  go_enter Try.func26, Try.ntmps26
  go_wp2_with fail
  refine HOK.out.mono ?_
  rintro e w1 ⟨rfl, rfl⟩
  go_wp2_with fail
  go_ret
  exact ⟨rfl, rfl⟩
theorem jLeft.dead {v : Value} {W : World} (h : Jdead v W) : Calls Try.prog 27 #[v] W fun e w' => e = .returned (.int .i64 0) ∧ w' = W := by
  have HOK := Aside0.mk (jok.dead h)
  clear h
  go_enter Try.func27, Try.ntmps27
  go_wp2_with fail
  refine HOK.out.mono ?_
  rintro e w1 ⟨rfl, rfl⟩
  go_wp2_with fail
  go_ret
  exact ⟨rfl, rfl⟩
theorem jGroup.dead {v : Value} {W : World} (h : Jdead v W) : Calls Try.prog 26 #[v] W fun e w' => e = .returned (.int .i64 0) ∧ w' = W := by
  have HOK := Aside0.mk (jok.dead h)
  clear h
  go_enter Try.func26, Try.ntmps26
  go_wp2_with fail
  refine HOK.out.mono ?_
  rintro e w1 ⟨rfl, rfl⟩
  go_wp2_with fail
  go_ret
  exact ⟨rfl, rfl⟩
theorem jSize.dead {v : Value} {W : World} (h : Jdead v W) : Calls Try.prog 25 #[v] W fun e w' => e = .returned (.int .i64 0) ∧ w' = W := by
  have HOK := Aside0.mk (jok.dead h)
  clear h
  go_enter Try.func25, Try.ntmps25
  go_wp2_with fail
  refine HOK.out.mono ?_
  rintro e w1 ⟨rfl, rfl⟩
  go_wp2_with fail
  go_ret
  exact ⟨rfl, rfl⟩
theorem jCommit.dead {v : Value} {W : World} (h : Jdead v W) : Calls Try.prog 19 #[v] W fun e w' => e = .returned (.int .i64 2) ∧ w' = W := by
  have HOK := Aside0.mk (jok.dead h)
  clear h
  go_enter Try.func19, Try.ntmps19
  go_wp2_with fail
  refine HOK.out.mono ?_
  rintro e w1 ⟨rfl, rfl⟩
  go_wp2_with fail
  go_ret
  exact ⟨rfl, rfl⟩
theorem jAdd.dead {A : Option Addr} {n c : Nat} {v : Value} {W : World} (h : Jdead v W) : Calls Try.prog 18 #[v, .slice A n c] W fun e w' => e = .returned (.int .i64 2) ∧ w' = W := by
  have HOK := Aside0.mk (jok.dead h)
  clear h
  go_enter Try.func18, Try.ntmps18
  go_wp2_with fail
  refine HOK.out.mono ?_
  rintro e w1 ⟨rfl, rfl⟩
  go_wp2_with fail
  go_ret
  exact ⟨rfl, rfl⟩
theorem jSnapshot.dead {A : Option Addr} {n c : Nat} {v : Value} {W : World} (h : Jdead v W) : Calls Try.prog 29 #[v, .slice A n c] W fun e w' => e = .returned (.int .i64 2) ∧ w' = W := by
  have HOK := Aside0.mk (jok.dead h)
  clear h
  go_enter Try.func29, Try.ntmps29
  go_wp2_with fail
  refine HOK.out.mono ?_
  rintro e w1 ⟨rfl, rfl⟩
  go_wp2_with fail
  go_ret
  exact ⟨rfl, rfl⟩
theorem jSize.calls {S : Nat → Prop} {g jb : Nat} {d : D} {j : J} {W : World} (h : Jn S g jb d j W) (hg : Good d) :
    Calls Try.prog 25 #[.pointer (some ⟨jb, 0, none⟩)] W fun e w' => e = .returned (.int .i64 ((rdL d j.live).length : Int)) ∧ Below W.heap.size W w' := by
  obtain ⟨ok, gv, ho⟩ := h
  have HOK := Aside0.mk (jok.calls ho.c0)
  have HR := Aside0.mk (dn_Read (ho.below (below_drew (Below.refl _ W))).dn hg j.live)
  have x0 := ho.c0
  have x1 := ho.c1
  have X := Aside0.mk (And.intro ho.c0 ho.c1)
  clear ho
  go_enter Try.func25, Try.ntmps25
  go_wp2_with fail
  refine HOK.out.mono ?_
  rintro e w1 ⟨rfl, rfl⟩
  go_wp2_with fail
  refine start_ (n := 14) (S := fun w' => w'.cell? ⟨jb, 0, none⟩ = some (.pointer (some ⟨g, 0, none⟩)) ∧ w'.cell? ⟨jb, 1, none⟩ = some (.int .i64 (iv j.live))) (ds := []) (bl 14 0x0) (by kernel_rfl) rfl (by kernel_rfl) ⟨x0, x1⟩ (fun hHeld => ?_)
  refine pu 0 (some 9) (bl 14 0x1) ?_
  refine pu 1 (some 10) (bl 14 0x3) ?_
  refine pu 2 (some 11) (bl 14 0x7) ?_
  refine pu 4 (some 13) (bl 14 0x17) ?_
  refine pu 5 (some 14) (bl 14 0x37) ?_
  refine pu 6 (some 15) (bl 14 0x77) ?_
  refine tk 3 (some 12) (bl 14 0x7f) hHeld ?_
  refine tk 7 (some 16) (bl 14 0xff) hHeld ?_
  refine one_ (i := 8) (N := some 17) (bl 14 0x1ff) rfl rfl (by kernel_rfl) (by decide) (fun K hK => ?_)
  refine goes_ Try.func35 (by kernel_rfl) rfl #[.pointer (some ⟨g, 0, none⟩), .int .i64 (iv j.live)] (by rfl) rfl rfl (by simp only [List.map_toArray, List.map_cons, List.map_nil]; rfl) ?_
  with_reducible refine (HR.out).mono ?_
  rintro e w3 ⟨A3, c3, rfl, hR_, hb_⟩
  refine ⟨_, rfl, ?_⟩
  have HB := Aside0.mk ((below_drew (Below.refl _ w1)).trans hb_)
  clear hb_ hR_
  refine hK.out _ _ ⟨pw_cell_below HB.out X.out.1, pw_cell_below HB.out X.out.2⟩ (fun hHeld => ?_)
  clear hK K
  refine norm_ (a' := ?_) ?_ ?_
  rotate_left
  · show Act.put _ (some 17) _ = _
    simp only [Act.put, List.setIfInBounds_toArray, List.set_cons_zero, List.set_cons_succ, i64_w, i32_w]
    rfl
  refine pu 9 (some 8) (bl 14 0x3ff) ?_
  refine pu 10 (some 18) (bl 14 0x7ff) ?_
  refine pu 11 (some 19) (bl 14 0xfff) ?_
  refine pu 12 (some 3) (bl 14 0x1fff) ?_
  refine pu 13 (some 4) (bl 14 0x3fff) ?_
  refine done_ (by kernel_rfl) ?_
  go_wp2_with fail
  go_ret
  exact ⟨rfl, HB.out⟩
/-- What a Commit answers, and leaves. -/
def comE (d : D) (j : J) : Int := if j.many = 0 then 0 else if apE (iv j.live) j.group d ≠ 0 then apE (iv j.live) j.group d else syE (iv j.live) (apD (iv j.live) j.group d)
def comD (d : D) (j : J) : D := if j.many = 0 then d else if apE (iv j.live) j.group d ≠ 0 then apD (iv j.live) j.group d else syD (iv j.live) (apD (iv j.live) j.group d)
def comJ (d : D) (j : J) : J := if j.many = 0 then j else if apE (iv j.live) j.group d ≠ 0 then j else if syE (iv j.live) (apD (iv j.live) j.group d) ≠ 0 then j else ⟨j.live, [], 0⟩
set_option maxHeartbeats 4000000 in
theorem jCommit.calls {S : Nat → Prop} {g jb : Nat} {d : D} {j : J} {W : World} (h : Jn S g jb d j W) (hg : Good d) :
    Calls Try.prog 19 #[.pointer (some ⟨jb, 0, none⟩)] W fun e w' => e = .returned (.int .i64 (comE d j)) ∧ ∃ S', Jn S' g jb (comD d j) (comJ d j) w' ∧ Mv S S' W w' := by
  obtain ⟨ok, gv, ho⟩ := h
  obtain ⟨Ag, cg, rfl⟩ := ho.slice
  have HO := Aside0.mk ho
  have HG := Aside0.mk hg
  have HOK := Aside0.mk (jok.calls ho.c0)
  have x3 := ho.c3
  unfold comE comD comJ
  by_cases hm : j.many = 0
  · rw [if_pos hm, if_pos hm, if_pos hm]
    have hmb : (j.many == 0) = true := beq_iff_eq.mpr hm
    clear hm ho hg
    go_enter Try.func19, Try.ntmps19
    go_wp2_with fail
    refine HOK.out.mono ?_
    rintro e w1 ⟨rfl, rfl⟩
    go_wp2_with fail
    go_ret
    exact ⟨rfl, S, ⟨_, _, HO.out⟩, Mv.refl _ _⟩
  have hmb : (j.many == 0) = false := beq_eq_false_iff_ne.mpr hm
  rw [if_neg hm, if_neg hm, if_neg hm]
  have HOd := Aside0.mk (ho.below (below_drew (Below.refl _ W)))
  have hap := HOd.out.act (fun hA => disk_Append.all hA hg (iv j.live) HOd.out.view (fun hh => hh rfl))
  have hap' : Calls Try.prog 46 #[.pointer (some ⟨g, 0, none⟩), .int .i64 (iv j.live), .slice Ag j.group.length cg] W.drew fun e w' => e = .returned (.int .i64 (apE (iv j.live) j.group d)) ∧ ∃ S', Jo _ _ S' g jb (apD (iv j.live) j.group d) j w' ∧ Mv S S' W.drew w' := hap
  have HAP := Aside0.mk hap'
  have HG1 := Aside0.mk (good_apD hg (iv j.live) j.group)
  have x0 := ho.c0
  have x1 := ho.c1
  have x2 := ho.c2
  obtain ⟨E, hE⟩ : ∃ E, E = apE (iv j.live) j.group d := ⟨_, rfl⟩
  obtain ⟨d1, hd1⟩ : ∃ d1, d1 = apD (iv j.live) j.group d := ⟨_, rfl⟩
  rw [← hE, ← hd1] at HAP ⊢
  rw [← hd1] at HG1
  clear hm ho hg hap hap' hE hd1
  by_cases hE0 : E ≠ 0
  · rw [if_pos hE0, if_pos hE0, if_pos hE0]
    have hEb : (E != 0) = true := bne_iff_ne.mpr hE0
    clear hE0
    go_enter Try.func19, Try.ntmps19
    go_wp2_with fail
    refine HOK.out.mono ?_
    rintro e w1 ⟨rfl, rfl⟩
    go_wp2_with fail
    refine start_ (n := 14) (S := fun w' => w'.cell? ⟨jb, 0, none⟩ = some (.pointer (some ⟨g, 0, none⟩)) ∧ w'.cell? ⟨jb, 1, none⟩ = some (.int .i64 (iv j.live)) ∧ w'.cell? ⟨jb, 2, none⟩ = some (.slice Ag j.group.length cg)) (ds := []) (bl 14 0x0) (by kernel_rfl) rfl (by kernel_rfl) ⟨x0, x1, x2⟩ (fun hHeld => ?_)
    refine pu 0 (some 13) (bl 14 0x1) ?_
    refine pu 1 (some 14) (bl 14 0x3) ?_
    refine pu 2 (some 15) (bl 14 0x7) ?_
    refine pu 4 (some 17) (bl 14 0x17) ?_
    refine pu 5 (some 18) (bl 14 0x37) ?_
    refine pu 6 (some 19) (bl 14 0x77) ?_
    refine pu 8 (some 21) (bl 14 0x177) ?_
    refine pu 9 (some 22) (bl 14 0x377) ?_
    refine pu 10 (some 23) (bl 14 0x777) ?_
    refine tk 3 (some 16) (bl 14 0x77f) hHeld ?_
    refine tk 7 (some 20) (bl 14 0x7ff) hHeld ?_
    refine tk 11 (some 24) (bl 14 0xfff) hHeld ?_
    refine one_ (i := 12) (N := some 25) (bl 14 0x1fff) rfl rfl (by kernel_rfl) (by decide) (fun K hK => ?_)
    refine goes_ Try.func46 (by kernel_rfl) rfl #[.pointer (some ⟨g, 0, none⟩), .int .i64 (iv j.live), .slice Ag j.group.length cg] (by rfl) rfl rfl (by simp only [List.map_toArray, List.map_cons, List.map_nil]; rfl) ?_
    with_reducible refine (HAP.out).mono ?_
    rintro e w3 ⟨rfl, S3, hJ_, hM_⟩
    refine ⟨_, rfl, ?_⟩
    have HJ3 := Aside0.mk hJ_
    have HM3 := Aside0.mk ((Mv.of_below S (below_drew (Below.refl _ w1))).trans hM_)
    clear hJ_ hM_
    refine hK.out _ _ ⟨HJ3.out.c0, HJ3.out.c1, HJ3.out.c2⟩ (fun hHeld => ?_)
    clear hK K
    refine norm_ (a' := ?_) ?_ ?_
    rotate_left
    · show Act.put _ (some 25) _ = _
      simp only [Act.put, List.setIfInBounds_toArray, List.set_cons_zero, List.set_cons_succ, i64_w, i32_w]
      rfl
    refine pu 13 (some 3) (bl 14 0x3fff) ?_
    refine done_ (by kernel_rfl) ?_
    go_wp2_with fail
    go_ret
    exact ⟨rfl, S3, ⟨_, _, HJ3.out⟩, HM3.out⟩
  have hEb : (E != 0) = false := by simpa using hE0
  rw [if_neg hE0, if_neg hE0, if_neg hE0]
  have HSE := Aside0.mk (show (syE (iv j.live) d1 ≠ 0) ∨ syE (iv j.live) d1 = 0 from (Classical.em _).symm)
  rcases HSE.out with hs | hs
  · rw [if_pos hs]
    obtain ⟨E2, hE2⟩ : ∃ E2, E2 = syE (iv j.live) d1 := ⟨_, rfl⟩
    rw [← hE2] at hs ⊢
    have HE2 := Aside0.mk hE2
    have hsb : (E2 != 0) = true := bne_iff_ne.mpr hs
    clear hs hE2 hE0 HSE
    go_enter Try.func19, Try.ntmps19
    go_wp2_with fail
    refine HOK.out.mono ?_
    rintro e w1 ⟨rfl, rfl⟩
    go_wp2_with fail
    refine start_ (n := 14) (S := fun w' => w'.cell? ⟨jb, 0, none⟩ = some (.pointer (some ⟨g, 0, none⟩)) ∧ w'.cell? ⟨jb, 1, none⟩ = some (.int .i64 (iv j.live)) ∧ w'.cell? ⟨jb, 2, none⟩ = some (.slice Ag j.group.length cg)) (ds := []) (bl 14 0x0) (by kernel_rfl) rfl (by kernel_rfl) ⟨x0, x1, x2⟩ (fun hHeld => ?_)
    refine pu 0 (some 13) (bl 14 0x1) ?_
    refine pu 1 (some 14) (bl 14 0x3) ?_
    refine pu 2 (some 15) (bl 14 0x7) ?_
    refine pu 4 (some 17) (bl 14 0x17) ?_
    refine pu 5 (some 18) (bl 14 0x37) ?_
    refine pu 6 (some 19) (bl 14 0x77) ?_
    refine pu 8 (some 21) (bl 14 0x177) ?_
    refine pu 9 (some 22) (bl 14 0x377) ?_
    refine pu 10 (some 23) (bl 14 0x777) ?_
    refine tk 3 (some 16) (bl 14 0x77f) hHeld ?_
    refine tk 7 (some 20) (bl 14 0x7ff) hHeld ?_
    refine tk 11 (some 24) (bl 14 0xfff) hHeld ?_
    refine one_ (i := 12) (N := some 25) (bl 14 0x1fff) rfl rfl (by kernel_rfl) (by decide) (fun K hK => ?_)
    refine goes_ Try.func46 (by kernel_rfl) rfl #[.pointer (some ⟨g, 0, none⟩), .int .i64 (iv j.live), .slice Ag j.group.length cg] (by rfl) rfl rfl (by simp only [List.map_toArray, List.map_cons, List.map_nil]; rfl) ?_
    with_reducible refine (HAP.out).mono ?_
    rintro e w3 ⟨rfl, S3, hJ_, hM_⟩
    refine ⟨_, rfl, ?_⟩
    have HJ3 := Aside0.mk hJ_
    have HM3 := Aside0.mk ((Mv.of_below S (below_drew (Below.refl _ w1))).trans hM_)
    clear hJ_ hM_
    refine hK.out _ _ ⟨HJ3.out.c0, HJ3.out.c1, HJ3.out.c2⟩ (fun hHeld => ?_)
    clear hK K
    refine norm_ (a' := ?_) ?_ ?_
    rotate_left
    · show Act.put _ (some 25) _ = _
      simp only [Act.put, List.setIfInBounds_toArray, List.set_cons_zero, List.set_cons_succ, i64_w, i32_w]
      rfl
    refine pu 13 (some 3) (bl 14 0x3fff) ?_
    refine done_ (by kernel_rfl) ?_
    have y0 := HJ3.out.c0
    have y1 := HJ3.out.c1
    have HSY := Aside0.mk ((HJ3.out.below (below_drew (Below.refl _ w3))).act (fun hA => disk_Sync.all hA HG1.out (iv j.live)))
    rw [show gateE d1 (iv j.live) (actE 0 d1) = E2 from HE2.out.symm, show gateD d1 (iv j.live) (actD 0 (syn (bi (iv j.live))) d1) = syD (iv j.live) d1 from rfl] at HSY
    clear x0 x1 x2
    go_wp2_with fail
    refine start_ (n := 10) (S := fun w' => w'.cell? ⟨jb, 0, none⟩ = some (.pointer (some ⟨g, 0, none⟩)) ∧ w'.cell? ⟨jb, 1, none⟩ = some (.int .i64 (iv j.live))) (ds := []) (bl 10 0x0) (by kernel_rfl) rfl (by kernel_rfl) ⟨y0, y1⟩ (fun hHeld => ?_)
    refine pu 0 (some 29) (bl 10 0x1) ?_
    refine pu 1 (some 30) (bl 10 0x3) ?_
    refine pu 2 (some 31) (bl 10 0x7) ?_
    refine pu 4 (some 33) (bl 10 0x17) ?_
    refine pu 5 (some 34) (bl 10 0x37) ?_
    refine pu 6 (some 35) (bl 10 0x77) ?_
    refine tk 3 (some 32) (bl 10 0x7f) hHeld ?_
    refine tk 7 (some 36) (bl 10 0xff) hHeld ?_
    refine one_ (i := 8) (N := some 37) (bl 10 0x1ff) rfl rfl (by kernel_rfl) (by decide) (fun K hK => ?_)
    refine goes_ Try.func47 (by kernel_rfl) rfl #[.pointer (some ⟨g, 0, none⟩), .int .i64 (iv j.live)] (by rfl) rfl rfl (by simp only [List.map_toArray, List.map_cons, List.map_nil]; rfl) ?_
    with_reducible refine (HSY.out).mono ?_
    rintro e w4 ⟨rfl, S4, hJ_, hM_⟩
    refine ⟨_, rfl, ?_⟩
    have HJ4 := Aside0.mk hJ_
    have HM4 := Aside0.mk ((HM3.out.trans (Mv.of_below S3 (below_drew (Below.refl _ w3)))).trans hM_)
    clear hJ_ hM_
    refine hK.out _ _ ⟨HJ4.out.c0, HJ4.out.c1⟩ (fun hHeld => ?_)
    clear hK K
    refine norm_ (a' := ?_) ?_ ?_
    rotate_left
    · show Act.put _ (some 37) _ = _
      simp only [Act.put, List.setIfInBounds_toArray, List.set_cons_zero, List.set_cons_succ, i64_w, i32_w]
      rfl
    refine pu 9 (some 4) (bl 10 0x3ff) ?_
    refine done_ (by kernel_rfl) ?_
    go_wp2_with fail
    go_ret
    exact ⟨rfl, S4, ⟨_, _, HJ4.out⟩, HM4.out⟩
  · rw [if_neg (fun h => h hs)]
    have HE2 := Aside0.mk hs
    rw [hs]
    clear hs hE0 HSE
    go_enter Try.func19, Try.ntmps19
    go_wp2_with fail
    refine HOK.out.mono ?_
    rintro e w1 ⟨rfl, rfl⟩
    go_wp2_with fail
    refine start_ (n := 14) (S := fun w' => w'.cell? ⟨jb, 0, none⟩ = some (.pointer (some ⟨g, 0, none⟩)) ∧ w'.cell? ⟨jb, 1, none⟩ = some (.int .i64 (iv j.live)) ∧ w'.cell? ⟨jb, 2, none⟩ = some (.slice Ag j.group.length cg)) (ds := []) (bl 14 0x0) (by kernel_rfl) rfl (by kernel_rfl) ⟨x0, x1, x2⟩ (fun hHeld => ?_)
    refine pu 0 (some 13) (bl 14 0x1) ?_
    refine pu 1 (some 14) (bl 14 0x3) ?_
    refine pu 2 (some 15) (bl 14 0x7) ?_
    refine pu 4 (some 17) (bl 14 0x17) ?_
    refine pu 5 (some 18) (bl 14 0x37) ?_
    refine pu 6 (some 19) (bl 14 0x77) ?_
    refine pu 8 (some 21) (bl 14 0x177) ?_
    refine pu 9 (some 22) (bl 14 0x377) ?_
    refine pu 10 (some 23) (bl 14 0x777) ?_
    refine tk 3 (some 16) (bl 14 0x77f) hHeld ?_
    refine tk 7 (some 20) (bl 14 0x7ff) hHeld ?_
    refine tk 11 (some 24) (bl 14 0xfff) hHeld ?_
    refine one_ (i := 12) (N := some 25) (bl 14 0x1fff) rfl rfl (by kernel_rfl) (by decide) (fun K hK => ?_)
    refine goes_ Try.func46 (by kernel_rfl) rfl #[.pointer (some ⟨g, 0, none⟩), .int .i64 (iv j.live), .slice Ag j.group.length cg] (by rfl) rfl rfl (by simp only [List.map_toArray, List.map_cons, List.map_nil]; rfl) ?_
    with_reducible refine (HAP.out).mono ?_
    rintro e w3 ⟨rfl, S3, hJ_, hM_⟩
    refine ⟨_, rfl, ?_⟩
    have HJ3 := Aside0.mk hJ_
    have HM3 := Aside0.mk ((Mv.of_below S (below_drew (Below.refl _ w1))).trans hM_)
    clear hJ_ hM_
    refine hK.out _ _ ⟨HJ3.out.c0, HJ3.out.c1, HJ3.out.c2⟩ (fun hHeld => ?_)
    clear hK K
    refine norm_ (a' := ?_) ?_ ?_
    rotate_left
    · show Act.put _ (some 25) _ = _
      simp only [Act.put, List.setIfInBounds_toArray, List.set_cons_zero, List.set_cons_succ, i64_w, i32_w]
      rfl
    refine pu 13 (some 3) (bl 14 0x3fff) ?_
    refine done_ (by kernel_rfl) ?_
    have y0 := HJ3.out.c0
    have y1 := HJ3.out.c1
    have HSY := Aside0.mk ((HJ3.out.below (below_drew (Below.refl _ w3))).act (fun hA => disk_Sync.all hA HG1.out (iv j.live)))
    rw [show gateE d1 (iv j.live) (actE 0 d1) = 0 from HE2.out, show gateD d1 (iv j.live) (actD 0 (syn (bi (iv j.live))) d1) = syD (iv j.live) d1 from rfl] at HSY
    clear x0 x1 x2
    go_wp2_with fail
    refine start_ (n := 10) (S := fun w' => w'.cell? ⟨jb, 0, none⟩ = some (.pointer (some ⟨g, 0, none⟩)) ∧ w'.cell? ⟨jb, 1, none⟩ = some (.int .i64 (iv j.live))) (ds := []) (bl 10 0x0) (by kernel_rfl) rfl (by kernel_rfl) ⟨y0, y1⟩ (fun hHeld => ?_)
    refine pu 0 (some 29) (bl 10 0x1) ?_
    refine pu 1 (some 30) (bl 10 0x3) ?_
    refine pu 2 (some 31) (bl 10 0x7) ?_
    refine pu 4 (some 33) (bl 10 0x17) ?_
    refine pu 5 (some 34) (bl 10 0x37) ?_
    refine pu 6 (some 35) (bl 10 0x77) ?_
    refine tk 3 (some 32) (bl 10 0x7f) hHeld ?_
    refine tk 7 (some 36) (bl 10 0xff) hHeld ?_
    refine one_ (i := 8) (N := some 37) (bl 10 0x1ff) rfl rfl (by kernel_rfl) (by decide) (fun K hK => ?_)
    refine goes_ Try.func47 (by kernel_rfl) rfl #[.pointer (some ⟨g, 0, none⟩), .int .i64 (iv j.live)] (by rfl) rfl rfl (by simp only [List.map_toArray, List.map_cons, List.map_nil]; rfl) ?_
    with_reducible refine (HSY.out).mono ?_
    rintro e w4 ⟨rfl, S4, hJ_, hM_⟩
    refine ⟨_, rfl, ?_⟩
    have HJ4 := Aside0.mk hJ_
    have HM4 := Aside0.mk ((HM3.out.trans (Mv.of_below S3 (below_drew (Below.refl _ w3)))).trans hM_)
    clear hJ_ hM_
    refine hK.out _ _ ⟨HJ4.out.c0, HJ4.out.c1⟩ (fun hHeld => ?_)
    clear hK K
    refine norm_ (a' := ?_) ?_ ?_
    rotate_left
    · show Act.put _ (some 37) _ = _
      simp only [Act.put, List.setIfInBounds_toArray, List.set_cons_zero, List.set_cons_succ, i64_w, i32_w]
      rfl
    refine pu 9 (some 4) (bl 10 0x3ff) ?_
    refine done_ (by kernel_rfl) ?_
    go_wp2_with fail
    refine (jDrop.calls ⟨_, _, HJ4.out⟩).mono ?_
    rintro e w5 ⟨rfl, hJ, hM⟩
    have HJ5 := Aside0.mk hJ
    have HM5 := Aside0.mk (HM4.out.trans hM)
    clear hJ hM
    go_wp2_with fail
    go_ret
    exact ⟨rfl, S4, HJ5.out, HM5.out⟩
def sn5 (i : Bool) (d : D) : Int × D × Bool := if trE (iv i) 0 d ≠ 0 then (trE (iv i) 0 d, trD (iv i) 0 d, !i) else (syE (iv i) (trD (iv i) 0 d), syD (iv i) (trD (iv i) 0 d), !i)
def sn3 (i : Bool) (d : D) : Int × D × Bool := if swE (iv (!i)) d ≠ 0 then (swE (iv (!i)) d, swD (iv (!i)) d, i) else sn5 i (swD (iv (!i)) d)
def sn2 (i : Bool) (d : D) : Int × D × Bool := if syE (iv (!i)) d ≠ 0 then (syE (iv (!i)) d, syD (iv (!i)) d, i) else sn3 i (syD (iv (!i)) d)
def sn1 (i : Bool) (b : List Int) (d : D) : Int × D × Bool := if apE (iv (!i)) b d ≠ 0 then (apE (iv (!i)) b d, apD (iv (!i)) b d, i) else sn2 i (apD (iv (!i)) b d)
/-- What a Snapshot answers, and leaves. -/
noncomputable def snap (l : List (List Int)) (d : D) (j : J) : Int × D × J := if 0 < j.many then (13, d, j) else if frsE l 0 d ≠ 0 then (frsE l 0 d, d, j) else ((sn1 j.live (flat l) d).1, (sn1 j.live (flat l) d).2.1, ⟨(sn1 j.live (flat l) d).2.2, j.group, j.many⟩)
set_option maxHeartbeats 8000000 in
theorem jSnapshot.calls {S : Nat → Prop} {g jb : Nat} {d : D} {j : J} {W : World} (h : Jn S g jb d j W) (hg : Good d) {A : Option Addr} {c : Nat} {l : List (List Int)} (hC : (Kd.slice 5 (Kd.int .u8)).C W A l.length l) (hl : l.length ≤ 1000) :
    Calls Try.prog 29 #[.pointer (some ⟨jb, 0, none⟩), .slice A l.length c] W fun e w' => e = .returned (.int .i64 (snap l d j).1) ∧ ∃ S', Jn S' g jb (snap l d j).2.1 (snap l d j).2.2 w' ∧ Mv S S' W w' := by
  obtain ⟨ok, gv, ho⟩ := h
  have HO := Aside0.mk ho
  have HG := Aside0.mk hg
  have HOK := Aside0.mk (jok.calls ho.c0)
  have HFR := Aside0.mk (jframes.calls ⟨ok, _, ho⟩ hg (c := c) hC hl 0 ⟨by omega, by omega⟩)
  have x3 := ho.c3
  obtain ⟨r, hr⟩ : ∃ r, r = snap l d j := ⟨_, rfl⟩
  rw [← hr]
  have HR := Aside0.mk hr
  obtain ⟨E, hE⟩ : ∃ E, E = frsE l 0 d := ⟨_, rfl⟩
  rw [← hE] at HFR
  have HE := Aside0.mk hE
  have hwi := iv_not j.live
  clear ho hg hC hr hE
  by_cases hm : 0 < j.many
  · have hmb : decide (j.many > 0) = true := decide_eq_true hm
    have HX := Aside0.mk (HR.out.trans (if_pos hm))
    clear hm
    go_enter Try.func29, Try.ntmps29
    go_wp2_with fail
    refine HOK.out.mono ?_
    rintro e w1 ⟨rfl, rfl⟩
    go_wp2_with fail
    go_ret
    rw [HX.out]
    exact ⟨rfl, S, ⟨_, _, HO.out⟩, Mv.refl _ _⟩
  have hmb : decide (j.many > 0) = false := decide_eq_false hm
  have HR1 := Aside0.mk (HR.out.trans (if_neg hm))
  clear hm HR
  go_enter Try.func29, Try.ntmps29
  go_wp2_with fail
  refine HOK.out.mono ?_
  rintro e w1 ⟨rfl, rfl⟩
  go_wp2_with fail
  refine HFR.out.mono ?_
  rintro e w2 ⟨v2, rfl, hR, hb⟩
  obtain ⟨A2, c2, rfl⟩ := Kd.R_slice hR
  have HO2 := Aside0.mk (HO.out.below hb)
  have HM2 := Aside0.mk (Mv.of_below S hb)
  have HRB := Aside0.mk hR
  clear hR hb x3 HFR HOK
  by_cases hE0 : E ≠ 0
  · have hEb : (E != 0) = true := bne_iff_ne.mpr hE0
    have HX := Aside0.mk (show r = (E, d, j) from HR1.out.trans (by rw [HE.out] at hE0 ⊢; exact if_pos hE0))
    clear hE0
    go_wp2_with fail
    go_ret
    rw [HX.out]
    exact ⟨rfl, S, ⟨_, _, HO2.out⟩, HM2.out⟩
  have hEb : (E != 0) = false := by simpa using hE0
  have HR2 := Aside0.mk (show r = ((sn1 j.live (flat l) d).1, (sn1 j.live (flat l) d).2.1, ⟨(sn1 j.live (flat l) d).2.2, j.group, j.many⟩) from HR1.out.trans (by rw [HE.out] at hE0; exact if_neg hE0))
  have HLL := Aside0.mk (show frsL l 0 d = flat l from if_pos (by rw [← HE.out]; simpa using hE0))
  rw [HLL.out] at HRB ⊢
  have HVB := Aside0.mk (show Vb (fun k => k ≠ g) w2 (.slice A2 (flat l).length c2) (flat l) from V_own HRB.out (fun k hk => by have := HO.out.at_.lt; omega))
  have y1 := HO2.out.c1
  have Y := Aside0.mk HO2.out.c1
  clear hE0 HR1
  go_wp2_with fail
  refine start_ (n := 11) (S := fun w' => w'.cell? ⟨jb, 1, none⟩ = some (.int .i64 (iv j.live))) (ds := []) (bl 11 0x0) (by kernel_rfl) rfl (by kernel_rfl) (y1) (fun hHeld => ?_)
  refine pu 0 (some 32) (bl 11 0x1) ?_
  refine pu 1 (some 33) (bl 11 0x3) ?_
  refine pu 2 (some 34) (bl 11 0x7) ?_
  refine pu 4 (some 36) (bl 11 0x17) ?_
  refine pu 5 (some 37) (bl 11 0x37) ?_
  refine pu 6 (some 38) (bl 11 0x77) ?_
  refine tk 3 (some 35) (bl 11 0x7f) hHeld ?_
  refine pu 9 (some 7) (bl 11 0x27f) ?_
  refine tk 7 (some 39) (bl 11 0x2ff) hHeld ?_
  refine pu 8 (some 40) (bl 11 0x3ff) ?_
  refine pu 10 (some 8) (bl 11 0x7ff) ?_
  refine done_ (by kernel_rfl) ?_
  rw [hwi]
  have HO3 := Aside0.mk (HO2.out.below (below_drew (Below.refl _ w2)))
  have HM3 := Aside0.mk (HM2.out.then_below (below_drew (Below.refl _ w2)))
  have HV3 := Aside0.mk (Kd.V_below HVB.out (below_drew (Below.refl _ w2)))
  generalize w2.drew = w3 at HO3 HM3 HV3 ⊢
  have y0 := HO3.out.c0
  have hap := HO3.out.act (fun hA => disk_Append.all hA HG.out (iv (!j.live)) HV3.out (fun hh => hh rfl))
  have hap' : Calls Try.prog 46 #[.pointer (some ⟨g, 0, none⟩), .int .i64 (iv (!j.live)), .slice A2 (flat l).length c2] w3 fun e w' => e = .returned (.int .i64 (apE (iv (!j.live)) (flat l) d)) ∧ ∃ S', Jo _ _ S' g jb (apD (iv (!j.live)) (flat l) d) j w' ∧ Mv S S' w3 w' := hap
  have HAP := Aside0.mk hap'
  have HG1 := Aside0.mk (good_apD HG.out (iv (!j.live)) (flat l))
  have HN1 := Aside0.mk (show ∀ x, x = apE (iv (!j.live)) (flat l) d → (x ≠ 0 → sn1 j.live (flat l) d = (x, apD (iv (!j.live)) (flat l) d, j.live)) ∧ (x = 0 → sn1 j.live (flat l) d = sn2 j.live (apD (iv (!j.live)) (flat l) d)) from fun x hx => by subst hx; exact ⟨fun h => if_pos h, fun h => if_neg (fun hh => hh h)⟩)
  obtain ⟨E1, hE1⟩ : ∃ E1, E1 = apE (iv (!j.live)) (flat l) d := ⟨_, rfl⟩
  obtain ⟨d1, hd1⟩ : ∃ d1, d1 = apD (iv (!j.live)) (flat l) d := ⟨_, rfl⟩
  rw [← hE1, ← hd1] at HAP
  rw [← hd1] at HG1 HN1
  have HN1' := Aside0.mk (HN1.out E1 hE1)
  clear y1 hap hap' hE1 hd1 HN1
  go_wp2_with fail
  refine HAP.out.mono ?_
  rintro e w4 ⟨rfl, S4, hJ, hM⟩
  have HO4 := Aside0.mk hJ
  have HM4 := Aside0.mk (HM3.out.trans hM)
  have y0' := hJ.c0
  clear hJ hM y0 HAP
  by_cases hE1 : E1 ≠ 0
  · have hEb1 : (E1 != 0) = true := bne_iff_ne.mpr hE1
    have HX := Aside0.mk (show r = (E1, d1, ⟨j.live, j.group, j.many⟩) from HR2.out.trans (by rw [HN1'.out.1 hE1]))
    clear hE1
    go_wp2_with fail
    go_ret
    rw [HX.out]
    exact ⟨rfl, S4, ⟨_, _, HO4.out⟩, HM4.out⟩
  have hEb1 : (E1 != 0) = false := by simpa using hE1
  have HS2 := Aside0.mk (HN1'.out.2 (by simpa using hE1))
  clear hE1 HN1'
  have hsy := HO4.out.act (fun hA => disk_Sync.all hA HG1.out (iv (!j.live)))
  have hsy' : Calls Try.prog 47 #[.pointer (some ⟨g, 0, none⟩), .int .i64 (iv (!j.live))] w4 fun e w' => e = .returned (.int .i64 (syE (iv (!j.live)) d1)) ∧ ∃ S', Jo _ _ S' g jb (syD (iv (!j.live)) d1) j w' ∧ Mv S4 S' w4 w' := hsy
  have HSY := Aside0.mk hsy'
  have HG2 := Aside0.mk (good_syD HG1.out (iv (!j.live)))
  have HN2 := Aside0.mk (show ∀ x, x = syE (iv (!j.live)) d1 → (x ≠ 0 → sn2 j.live d1 = (x, syD (iv (!j.live)) d1, j.live)) ∧ (x = 0 → sn2 j.live d1 = sn3 j.live (syD (iv (!j.live)) d1)) from fun x hx => by subst hx; exact ⟨fun h => if_pos h, fun h => if_neg (fun hh => hh h)⟩)
  obtain ⟨E2, hE2⟩ : ∃ E2, E2 = syE (iv (!j.live)) d1 := ⟨_, rfl⟩
  obtain ⟨d2, hd2⟩ : ∃ d2, d2 = syD (iv (!j.live)) d1 := ⟨_, rfl⟩
  rw [← hE2, ← hd2] at HSY
  rw [← hd2] at HG2 HN2
  have HN2' := Aside0.mk (HN2.out E2 hE2)
  clear hsy hsy' hE2 hd2 HN2
  go_wp2_with fail
  refine HSY.out.mono ?_
  rintro e w5 ⟨rfl, S5, hJ, hM⟩
  have HO5 := Aside0.mk hJ
  have HM5 := Aside0.mk (HM4.out.trans hM)
  have y05 := hJ.c0
  clear hJ hM y0' HSY
  by_cases hE2 : E2 ≠ 0
  · have hEb2 : (E2 != 0) = true := bne_iff_ne.mpr hE2
    have HX := Aside0.mk (show r = (E2, d2, ⟨j.live, j.group, j.many⟩) from HR2.out.trans (by rw [HS2.out, HN2'.out.1 hE2]))
    clear hE2
    go_wp2_with fail
    go_ret
    rw [HX.out]
    exact ⟨rfl, S5, ⟨_, _, HO5.out⟩, HM5.out⟩
  have hEb2 : (E2 != 0) = false := by simpa using hE2
  have HS3 := Aside0.mk (HS2.out.trans (HN2'.out.2 (by simpa using hE2)))
  clear hE2 HN2' HS2
  have hsw := HO5.out.act (fun hA => disk_Switch.all hA HG2.out (iv (!j.live)))
  have hsw' : Calls Try.prog 51 #[.pointer (some ⟨g, 0, none⟩), .int .i64 (iv (!j.live))] w5 fun e w' => e = .returned (.int .i64 (swE (iv (!j.live)) d2)) ∧ ∃ S', Jo _ _ S' g jb (swD (iv (!j.live)) d2) j w' ∧ Mv S5 S' w5 w' := hsw
  have HSW := Aside0.mk hsw'
  have HG3 := Aside0.mk (good_swD HG2.out (iv (!j.live)))
  have HN3 := Aside0.mk (show ∀ x, x = swE (iv (!j.live)) d2 → (x ≠ 0 → sn3 j.live d2 = (x, swD (iv (!j.live)) d2, j.live)) ∧ (x = 0 → sn3 j.live d2 = sn5 j.live (swD (iv (!j.live)) d2)) from fun x hx => by subst hx; exact ⟨fun h => if_pos h, fun h => if_neg (fun hh => hh h)⟩)
  obtain ⟨E3, hE3⟩ : ∃ E3, E3 = swE (iv (!j.live)) d2 := ⟨_, rfl⟩
  obtain ⟨d3, hd3⟩ : ∃ d3, d3 = swD (iv (!j.live)) d2 := ⟨_, rfl⟩
  rw [← hE3, ← hd3] at HSW
  rw [← hd3] at HG3 HN3
  have HN3' := Aside0.mk (HN3.out E3 hE3)
  clear hsw hsw' hE3 hd3 HN3
  go_wp2_with fail
  refine HSW.out.mono ?_
  rintro e w6 ⟨rfl, S6, hJ, hM⟩
  have HO6 := Aside0.mk hJ
  have HM6 := Aside0.mk (HM5.out.trans hM)
  have y16 := hJ.c1
  have z16 : w6.frozen? ⟨jb, 1, none⟩ = false := hJ.blk.frozen 1
  clear hJ hM y05 HSW
  by_cases hE3 : E3 ≠ 0
  · have hEb3 : (E3 != 0) = true := bne_iff_ne.mpr hE3
    have HX := Aside0.mk (show r = (E3, d3, ⟨j.live, j.group, j.many⟩) from HR2.out.trans (by rw [HS3.out, HN3'.out.1 hE3]))
    clear hE3
    go_wp2_with fail
    go_ret
    rw [HX.out]
    exact ⟨rfl, S6, ⟨_, _, HO6.out⟩, HM6.out⟩
  have hEb3 : (E3 != 0) = false := by simpa using hE3
  have HS4 := Aside0.mk (HS3.out.trans (HN3'.out.2 (by simpa using hE3)))
  have HO7 := Aside0.mk (HO6.out.setLive (!j.live))
  have HM7 := Aside0.mk (HM6.out.trans (mv_set HO6.out.sj (i := 1) (v := .int .i64 (iv (!j.live)))))
  have y07 : w6.cell? ⟨jb, 0, none⟩ = some (.pointer (some ⟨g, 0, none⟩)) := HO6.out.c0
  have htr := HO7.out.act (fun hA => disk_Truncate.all hA HG3.out (iv j.live) 0)
  have htr' : Calls Try.prog 52 #[.pointer (some ⟨g, 0, none⟩), .int .i64 (iv j.live), .int .i64 0] (w6.setCell ⟨jb, 1, none⟩ (.int .i64 (iv (!j.live)))) fun e w' => e = .returned (.int .i64 (trE (iv j.live) 0 d3)) ∧ ∃ S', Jo _ _ S' g jb (trD (iv j.live) 0 d3) ⟨!j.live, j.group, j.many⟩ w' ∧ Mv S6 S' (w6.setCell ⟨jb, 1, none⟩ (.int .i64 (iv (!j.live)))) w' := htr
  have HTR := Aside0.mk htr'
  have HG4 := Aside0.mk (good_trD HG3.out (iv j.live) 0)
  have HN5 := Aside0.mk (show ∀ x, x = trE (iv j.live) 0 d3 → (x ≠ 0 → sn5 j.live d3 = (x, trD (iv j.live) 0 d3, !j.live)) ∧ (x = 0 → sn5 j.live d3 = (syE (iv j.live) (trD (iv j.live) 0 d3), syD (iv j.live) (trD (iv j.live) 0 d3), !j.live)) from fun x hx => by subst hx; exact ⟨fun h => if_pos h, fun h => if_neg (fun hh => hh h)⟩)
  obtain ⟨E4, hE4⟩ : ∃ E4, E4 = trE (iv j.live) 0 d3 := ⟨_, rfl⟩
  obtain ⟨d4, hd4⟩ : ∃ d4, d4 = trD (iv j.live) 0 d3 := ⟨_, rfl⟩
  rw [← hE4, ← hd4] at HTR
  rw [← hd4] at HG4 HN5
  have HN5' := Aside0.mk (HN5.out E4 hE4)
  clear hE3 HN3' HS3 htr htr' hE4 hd4 HN5
  go_wp2_with fail
  refine HTR.out.mono ?_
  rintro e w8 ⟨rfl, S8, hJ, hM⟩
  have HO8 := Aside0.mk hJ
  have HM8 := Aside0.mk (HM7.out.trans hM)
  have y08 := hJ.c0
  clear hJ hM y07 y16 z16 HTR
  by_cases hE4 : E4 ≠ 0
  · have hEb4 : (E4 != 0) = true := bne_iff_ne.mpr hE4
    have HX := Aside0.mk (show r = (E4, d4, ⟨!j.live, j.group, j.many⟩) from HR2.out.trans (by rw [HS4.out, HN5'.out.1 hE4]))
    clear hE4
    go_wp2_with fail
    go_ret
    rw [HX.out]
    exact ⟨rfl, S8, ⟨_, _, HO8.out⟩, HM8.out⟩
  have hEb4 : (E4 != 0) = false := by simpa using hE4
  have HX := Aside0.mk (show r = (syE (iv j.live) d4, syD (iv j.live) d4, ⟨!j.live, j.group, j.many⟩) from HR2.out.trans (by rw [HS4.out, HN5'.out.2 (by simpa using hE4)]))
  have hs5 := HO8.out.act (fun hA => disk_Sync.all hA HG4.out (iv j.live))
  have hs5' : Calls Try.prog 47 #[.pointer (some ⟨g, 0, none⟩), .int .i64 (iv j.live)] w8 fun e w' => e = .returned (.int .i64 (syE (iv j.live) d4)) ∧ ∃ S', Jo _ _ S' g jb (syD (iv j.live) d4) ⟨!j.live, j.group, j.many⟩ w' ∧ Mv S8 S' w8 w' := hs5
  have HS5 := Aside0.mk hs5'
  clear hE4 HN5' HS4 hs5 hs5'
  go_wp2_with fail
  refine HS5.out.mono ?_
  rintro e w9 ⟨rfl, S9, hJ, hM⟩
  have HO9 := Aside0.mk hJ
  have HM9 := Aside0.mk (HM8.out.trans hM)
  clear hJ hM y08 HS5
  go_wp2_with fail
  go_ret
  rw [HX.out]
  exact ⟨rfl, S9, ⟨_, _, HO9.out⟩, HM9.out⟩
theorem good_snap {l : List (List Int)} {d : D} {j : J} (hg : Good d) : Good (snap l d j).2.1 := by
  have h5 : ∀ i d, Good d → Good (sn5 i d).2.1 := fun i d h => by
    unfold sn5
    split
    · exact good_trD h _ _
    · exact good_syD (good_trD h _ _) _
  have h3 : ∀ i d, Good d → Good (sn3 i d).2.1 := fun i d h => by
    unfold sn3
    split
    · exact good_swD h _
    · exact h5 _ _ (good_swD h _)
  have h2 : ∀ i d, Good d → Good (sn2 i d).2.1 := fun i d h => by
    unfold sn2
    split
    · exact good_syD h _
    · exact h3 _ _ (good_syD h _)
  have h1 : ∀ i b d, Good d → Good (sn1 i b d).2.1 := fun i b d h => by
    unfold sn1
    split
    · exact good_apD h _ _
    · exact h2 _ _ (good_apD h _ _)
  unfold snap
  split
  · exact hg
  split
  · exact hg
  · exact h1 _ _ _ hg
theorem good_comD {d : D} {j : J} (hg : Good d) : Good (comD d j) := by
  unfold comD
  split
  · exact hg
  split
  · exact good_apD hg _ _
  · exact good_syD (good_apD hg _ _) _
end Go.Proofs.Ytdlfabbhdelinaa.Q
